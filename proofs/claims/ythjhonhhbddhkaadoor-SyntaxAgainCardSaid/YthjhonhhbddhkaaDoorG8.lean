/- Texts of this claim, side by side. -/
import Derived.Test.YthjhonhhbddhkaaDoorG7
import Derived.Test.YthjhonhhbddhkaaDoorG6
namespace Go.Proofs.YthjhonhhbddhkaaDoor
open Go.Ev Go.RowKit
noncomputable section
set_option maxRecDepth 100000
set_option linter.unusedVariables false
set_option linter.unusedSimpArgs false
set_option maxHeartbeats 8000000
section
variable {nx0:Nat}{H0:T OB}
variable {fr:Nat->List Value->TypeId->Prop}{bp:Nat}{l0:List Tok}{b0:Bool}{ok:Bool}{ts:List Tok}{n nx:Nat}{H:T OB}{R:Value->T OB->Nat->Prop}
theorem Wq.AO {t kt et:TypeId}{d:TypeDesc}{k1 v1 k2 v2:Value}{k:Value->T OB->Nat->Q}(hu:P.underlying t=some (.map kt et))(hd:P.underlying kt=some d)(hkk:jy d=true)(h0:Instr.findNow d k1 [] 0=some none)(h1:Instr.findNow d k2 [⟨k1,v1,0⟩] 0=some none)(hS:St fr bp nx0 H0 l0 b0 ok ts n H nx)
 (hk:∀m H' nx',(∀kv ok,cg P H' t (some m) (some kv) ok=CR P et ok (Instr.findNow d kv [⟨k1,v1,0⟩,⟨k2,v2,1⟩] 0))->St fr bp nx0 H0 l0 b0 ok ts n H' nx'->dJ P pl X0 (k m H' nx') nx0 H0 R):
 dJ P pl X0 (aR (eQ H nx) λm H nx=>aR (bt P H nx t (some m) (some k1) (some v1)) λ_ H nx=>aR (bt P H nx t (some m) (some k2) (some v2)) λ_ H nx=>k m H nx) nx0 H0 R:=by
 have hn0:=hS.2.1.1;refine Wq.VQ hS.2.1 λH1 m1 kb1 km1 hA1=> ?_;refine Wq.od hu hd hkk m1 h0 hA1 hn0 λH2 m2 kb2 km2 hA2=> ?_;refine Wq.od hu hd hkk m2 h1 hA2 hn0 λH3 m3 kb3 km3 hA3=> ?_;refine hk _ H3 (nx+1) (λkv ok=>Ap hu hd hkk m3) (hS.Kk hA3 (by omega) λb l e hb h=>kb3 _ _ _ (by omega) (kb2 _ _ _ (by omega) (kb1 _ _ _ hb h)))
abbrev TI:=(Int×Nat)×List Tok
def tN (x:TI):List Tok:=if x.1.1=1\/(x.1.1=2/\x.1.2=0)then x.2 else cN [40]::(x.2++[cN [41]])
def my (s:List UInt8):List Tok:=if s=[114,101,102]then[eg s]else[⟨3,s,0,0⟩]
def GQ (k:Int)(s:List UInt8)(q:List TI):List Tok:=
 if k=1 then[⟨5,s,0,0⟩]
 else if k=3 then bj (bN [45,62] tN) true q
 else if k=4 then bj (bN [42] tN) true q
 else if k=2 then if 1<q.length then cN [40]::(bj (bN [44] tN) true q++(cN [41]::my s))else bj (bN [44] tN) true q++my s
 else[]
mutual
def qi:aO->List Tok
 | .mk k s l=>GQ k s (KZ l)
def KZ:List aO->List TI
 | []=>[]
 | t::l=>((t.k,t.l.length),qi t)::KZ l
end
def WW (t:aO):TI:=((t.k,t.l.length),qi t)
def e6 (t:aO):List Tok:=tN (WW t)
theorem N5 (l:List aO):KZ l=l.map WW:=by
 induction l with
 | nil=>rw[KZ];rfl
 | cons p l ih=>rw[KZ,ih];rfl
theorem Cm (t:aO):qi t=GQ t.k t.s (t.l.map WW):=by cases t;rw[qi,N5];rfl
theorem rE (t:aO):e6 t=if t.k=1\/(t.k=2/\t.l.length=0)then qi t else cN [40]::(qi t++[cN [41]]):=rfl
theorem eV (l:List aO):lE l=l.all im:=by
 induction l with
 | nil=>rw[lE];rfl
 | cons a l ih=>rw[lE,ih];rfl
theorem K0 (l:List aO):dh (λp:aO=>8*p.z-1) l<=8*eF l:=by
 induction l with
 | nil=>simp[dh]
 | cons a l ih=>rw[dh,eF];omega
theorem aO.bJ (p:aO):1<=p.z:=by rw[aO.fY];omega
theorem N6 (s:List UInt8)(hs:s.length<9223372036854775807):gH 89 [au s] (decide (s=[114,101,102])||aU 3 s) (my s) 1:=λfr bp nx0 H0 l0 b0 H nx hn hS=>by
 rw[q89];simp only[ab,dz];unfold my;refine Wq.ite (λg=> ?_) (λg=> ?_)
 . refine Wq.key s hS (by omega) λu H2 nx2 hS2=> ?_;exact Wq.done hS2 (by simp[g]) (λ_=>by rw[if_pos g];simp) (by omega)
 . simp only[ab,gf];refine Wq.aZ (eG ⟨3,s,0,0⟩ hs) rfl hS (by omega) λu H2 nx2 hS2=> ?_;exact Wq.done hS2 (by simp[g,aU]) (λ_=>by rw[if_neg g];simp) (by omega)
theorem N7 (t:aO)(ih:gH 76 [t.v] (im t) (qi t) (8*t.z-4)):gH 88 [t.v] (im t) (e6 t) (8*t.z-2):=λfr bp nx0 H0 l0 b0 H nx hn hS=>by
 have hz:=t.bJ;rw[q88];refine Wq.qf hS λhS=> ?_;simp only[ab,az,List.length_map,jH];have L:∀b:Bool,b=decide (t.k=1\/(t.k=2/\t.l.length=0))->dJ P pl X0 (.jump (Ak (ptr bp) (aa t.v) b H (nx+1))) nx0 H0 (dW fr bp nx0 H0 l0 b0 (im t) (e6 t) (8*t.z-2)):=by
  intro b hb;refine Wq.jmp (VM ..) (λ_=>rfl) ?_;rw[rE];cases b with
  | true=>
    simp only[ab,az,List.length_map];rw[if_pos (of_decide_eq_true hb.symm)];refine Wq.aZ ih rfl hS (by omega) λu H2 nx2 hS2=> ?_;exact Wq.done hS2 (by simp) (λ_=>by simp) (by omega)
  | false=>
    simp only[ab,az,List.length_map];rw[if_neg (of_decide_eq_false hb.symm)];refine Wq.lK [40] hS (by omega) λu H1 av hS1=> ?_;refine Wq.aZ ih rfl hS1 (by omega) λu H2 nx2 hS2=> ?_;refine Wq.lK [41] hS2 (by omega) λu H3 nx3 hS3=> ?_;exact Wq.done hS3 (by simp) (λ_=>by simp) (by omega)
 refine Wq.ite (λh=>L _ (by simp[h])) (λh=> ?_);refine Wq.ite (λh2=> ?_) (λh2=>L _ (by simp[h,h2]));exact L _ (by simp[h2])
theorem Fm:P.underlying 131=some (.map 3 9):=by kernel_rfl
theorem K1 (t:aO)(ht:t.ok)(ih:∀a,a∈t.l->gH 88 [a.v] (im a) (e6 a) (8*a.z-2)):gH 76 [t.v] (im t) (qi t) (8*t.z-4):=λfr bp nx0 H0 l0 b0 H nx hn hS=>by
 rw[aO.bm]at ht;have hz:=t.fY;have hlen:=Ki t.l;have hsum:=K0 t.l;have e0:=yn t;have e1:=Cm t;unfold Ay at e0;unfold GQ at e1;rw[q76];refine Wq.qf hS λhS=> ?_;simp only[ab,az,List.length_map,jH];refine Wq.ite (λhk=> ?_) (λh1=> ?_)
 . rw[if_pos hk]at e0 e1;refine Wq.aZ (cf _) rfl hS (by omega) λu H2 nx2 hS2=> ?_;simp only[ab,gf];refine Wq.aZ (eG ⟨5,t.s,0,0⟩ (Cl ht.1)) rfl hS2 (by omega) λu H3 nx3 hS3=> ?_;refine Wq.done hS3 ?_ (λ_=>by rw[e1];rfl) (by omega);rw[e0];show _=(lE t.l&&(decide (t.l.length=0)&&aV ⟨5,t.s,0,0⟩))
   by_cases g:t.l.length=0
   . rw[List.eq_nil_of_length_eq_zero g];simp[lE]
   . simp[g]
 rw[if_neg h1]at e0 e1;have L18:∀b:Bool,b=decide (t.k=3\/t.k=4)->dJ P pl X0 (.jump (xT (ptr bp) (aa t.v) (i64 t.k) b H (nx+1))) nx0 H0 (dW fr bp nx0 H0 l0 b0 (im t) (qi t) (8*t.z-4)):=by
  intro b hb;refine Wq.jmp (SA ..) (λ_=>rfl) ?_;cases b with
  | true=>
    have hk34:=of_decide_eq_true hb.symm;have L20:∀(r:Bool) H2 nx2,r=(decide (t.s=[])&&(decide (2<=t.l.length)&&(decide (t.k=4)||decide (t.l.length=2))))->St fr bp nx0 H0 l0 b0 r [] 0 H2 nx2->dJ P pl X0 (.jump (nR (ptr bp) (aa t.v) H2 nx2)) nx0 H0 (dW fr bp nx0 H0 l0 b0 (im t) (qi t) (8*t.z-4)):=by
     intro r H2 nx2 hr hS2;have e2:im t=(r&&t.l.all im):=by
      rw[e0,hr,eV];rcases hk34 with hk | hk
      . rw[hk];show(t.l.all im&&(decide (t.l.length=2)&&decide (t.s=[])))=_
        by_cases g:t.l.length=2
        . rw[g];cases t.l.all im<;>cases decide (t.s=[])<;>rfl
        . simp[g]
      . rw[hk];show(t.l.all im&&(decide (2<=t.l.length)&&decide (t.s=[])))=_;cases t.l.all im<;>cases decide (t.s=[])<;>simp
     obtain⟨sg,hsg⟩:∃sg,sg=if t.k=3 then([45,62]:List UInt8)else[42]:=⟨_,rfl⟩;have e3:qi t=bj (bN sg e6) true t.l:=by
      rw[e1,hsg];rcases hk34 with hk | hk
      . rw[hk];simp only[if_true];rw[fA];rfl
      . rw[hk];simp only[if_true];rw[if_neg (by decide),if_neg (by decide),fA];rfl
     refine Wq.jmp (SB ..) (λ_=>rfl) ?_;simp only[ab,az,List.length_map];refine Wq.kx t.l im (bN sg e6) (λp=>8*p.z-1) (λi H nx=> .jump (xV (ptr bp) (aa t.v) (fu t.l) (i64 (t.l.length:Int)) (i64 (i:Int)) H nx)) hS2 (by omega) (λH1 av hS1=> ?_) (λi a H1 av ok' ts' n' hg hlt hb hS1 ih'=> ?_)
     . refine Wq.jmp (Jz ..) (λ_=>rfl) ?_;simp only[ab,az,List.length_map,aA];exact Wq.done hS1 e2.symm (λ_=>by rw[e3];simp) (by omega)
     . have hx:(t.l.map aO.v)[i]? = some a.v:=by simp[hg]
       have hm:=List.mem_of_getElem? hg;have hz:=a.bJ;refine Wq.jmp (Jz ..) (λ_=>rfl) ?_;simp only[ab,az,List.length_map,aE hlt,qH hx];refine Wq.fi dy ej rfl (GD _) (GF _) hS1 λH2 nx2 hS2=> ?_;have L:∀ts2 n2 H3 nx3,St fr bp nx0 H0 l0 b0 ok' ts2 n2 H3 nx3->ts2=ts'++(if decide (i=0)=true then[]else[cN sg])->n2<=n'+1->dJ P pl X0 (.jump (xX (ptr bp) (aa t.v) (aa a.v) (fu t.l) (i64 (t.l.length:Int)) (i64 (i:Int)) H3 nx3)) nx0 H0 (dW fr bp nx0 H0 l0 b0 (im t) (qi t) (8*t.z-4)):=by
        intro ts2 n2 H3 nx3 hS3 e en;subst e;refine Wq.jmp (SD ..) (λ_=>rfl) ?_;simp only[ab,az,List.length_map];refine Wq.aZ (ih a hm) rfl hS3 (by omega) λu H4 nx4 hS4=> ?_;simp only[ab,ao (show i<9223372036854775807 by have:=cM ht.2.1;omega)];refine ih' _ _ (hS4.mono rfl (λ_=> ?_) (by omega));unfold bN;simp
       refine Wq.ite (λh=> ?_) (λh=> ?_)
       . refine Wq.AO Fm E3 rfl rfl (by kernel_rfl) hS2 λm H3 nx3 hm3 hS3=> ?_;have hl:cg P H3 131 (some m) (some (i64 t.k)) false=some (au sg):=by
          rw[hm3,hsg];rcases hk34 with hk | hk
          . rw[hk];kernel_rfl
          . rw[hk];kernel_rfl
         simp only[ab,az,List.length_map,hl];refine Wq.lK sg hS3 (by omega) λu H3 nx3 hS3=> ?_;exact L _ _ _ _ hS3 (by rw[if_neg (by simp;omega)]) (by omega)
       . exact L _ _ _ _ hS2 (by rw[if_pos (by simp;omega)];simp) (by omega)
    have F:∀c:Bool,c=(decide (t.s=[])&&(decide (2<=t.l.length)&&(decide (t.k=4)||decide (t.l.length=2))))->dJ P pl X0 (bQ (.call 49 [ptr bp,.bool c] false none H (nx+1)) (λx H' nx'=> .jump (nR (ptr bp) (aa t.v) H' nx')) gg) nx0 H0 (dW fr bp nx0 H0 l0 b0 (im t) (qi t) (8*t.z-4)):=by
     intro c hc;refine Wq.aZ (cf c) rfl hS (by omega) λu H2 nx2 hS2=> ?_;exact L20 _ _ _ hc hS2
    simp only[ab,az,List.length_map,dz,Nc,yp];refine Wq.ite (λg1=> ?_) (λg1=>F _ (by simp[g1]));refine Wq.ite (λg2=> ?_) (λg2=>F _ (by simp[g2]));refine Wq.ite (λg3=>F _ (by simp[g1,g2,g3])) (λg3=> ?_);exact F _ (by simp[g1,g2,g3])
  | false=>
    have hk34:=of_decide_eq_false hb.symm;have h3:t.k≠3:=λq=>hk34 (.inl q);have h4:t.k≠4:=λq=>hk34 (.inr q);rw[if_neg h3,if_neg h4]at e1;simp only[ab,az,List.length_map,jI];refine Wq.ite (λhk=> ?_) (λh2=> ?_)
    . rw[if_pos hk]at e0 e1;rw[List.length_map,fA]at e1;have e2:im t=(t.l.all im&&(decide (t.s=[114,101,102])||aU 3 t.s)):=by rw[e0,eV]
      have L40:∀(ts0:List Tok) (n0:Nat) H2 nx2,ts0=(if 1<t.l.length then[cN [40]]else[])->n0<=1->St fr bp nx0 H0 l0 b0 true ts0 n0 H2 nx2->dJ P pl X0 (.jump (xU (ptr bp) (aa t.v) H2 nx2)) nx0 H0 (dW fr bp nx0 H0 l0 b0 (im t) (qi t) (8*t.z-4)):=by
       intro ts0 n0 H2 nx2 hts hn0 hS2;refine Wq.jmp (SC ..) (λ_=>rfl) ?_;simp only[ab,az,List.length_map];refine Wq.kx t.l im (bN [44] e6) (λp=>8*p.z-1) (λi H nx=> .jump (xW (ptr bp) (aa t.v) (fu t.l) (i64 (t.l.length:Int)) (i64 (i:Int)) H nx)) hS2 (by omega) (λH1 av hS1=> ?_) (λi a H1 av ok' ts' n' hg hlt hb hS1 ih'=> ?_)
       . refine Wq.jmp (JA ..) (λ_=>rfl) ?_;have L58:∀(ts1:List Tok) (n1:Nat) H3 nx3,ts1=ts0++bj (bN [44] e6) true t.l++(if 1<t.l.length then[cN [41]]else[])->n1<=n0+dh (λp:aO=>8*p.z-1) t.l+1->St fr bp nx0 H0 l0 b0 (true&&t.l.all im) ts1 n1 H3 nx3->dJ P pl X0 (.jump (xZ (ptr bp) (aa t.v) H3 nx3)) nx0 H0 (dW fr bp nx0 H0 l0 b0 (im t) (qi t) (8*t.z-4)):=by
          intro ts1 n1 H3 nx3 hts1 hn1 hS3;refine Wq.jmp (SF ..) (λ_=>rfl) ?_;simp only[ab,az,List.length_map];refine Wq.aZ (N6 t.s (Cl ht.1)) rfl hS3 (by omega) λu H4 nx4 hS4=> ?_;refine Wq.done hS4 (by rw[e2];simp) (λ_=> ?_) (by omega);rw[e1,hts1,hts]
          by_cases g:1<t.l.length
          . simp[g];rfl
          . simp[g];rfl
         simp only[ab,az,List.length_map,aA,jI];refine Wq.ite (λg=> ?_) (λg=> ?_)
         . refine Wq.lK [41] hS1 (by omega) λu H3 nx3 hS3=> ?_;exact L58 _ _ _ _ (by rw[if_pos g]) (by omega) hS3
         . exact L58 _ _ _ _ (by rw[if_neg g];simp) (by omega) hS1
       . have hx:(t.l.map aO.v)[i]? = some a.v:=by simp[hg]
         have hm:=List.mem_of_getElem? hg;have hz:=a.bJ;refine Wq.jmp (JA ..) (λ_=>rfl) ?_;simp only[ab,az,List.length_map,aE hlt,qH hx];refine Wq.fi dy ej rfl (GD _) (GF _) hS1 λH2 nx2 hS2=> ?_;have L:∀ts2 n2 H3 nx3,St fr bp nx0 H0 l0 b0 ok' ts2 n2 H3 nx3->ts2=ts'++(if decide (i=0)=true then[]else[cN [44]])->n2<=n'+1->dJ P pl X0 (.jump (xY (ptr bp) (aa t.v) (aa a.v) (fu t.l) (i64 (t.l.length:Int)) (i64 (i:Int)) H3 nx3)) nx0 H0 (dW fr bp nx0 H0 l0 b0 (im t) (qi t) (8*t.z-4)):=by
          intro ts2 n2 H3 nx3 hS3 e en;subst e;refine Wq.jmp (SE ..) (λ_=>rfl) ?_;simp only[ab,az,List.length_map];refine Wq.aZ (ih a hm) rfl hS3 (by omega) λu H4 nx4 hS4=> ?_;simp only[ab,ao (show i<9223372036854775807 by have:=cM ht.2.1;omega)];refine ih' _ _ (hS4.mono rfl (λ_=> ?_) (by omega));unfold bN;simp
         refine Wq.ite (λh=> ?_) (λh=> ?_)
         . refine Wq.lK [44] hS2 (by omega) λu H3 nx3 hS3=> ?_;exact L _ _ _ _ hS3 (by rw[if_neg (by simp;omega)]) (by omega)
         . exact L _ _ _ _ hS2 (by rw[if_pos (by simp;omega)];simp) (by omega)
      refine Wq.ite (λg=> ?_) (λg=> ?_)
      . refine Wq.lK [40] hS (by omega) λu H3 nx3 hS3=> ?_;exact L40 _ _ _ _ (by rw[if_pos g];simp) (by omega) hS3
      . exact L40 _ _ _ _ (by rw[if_neg g]) (by omega) hS
    . have e2:im t=false:=by
       rw[e0,if_neg h2,if_neg h3,if_neg h4];simp
      refine Wq.bad hS λH2 hS2=> ?_;exact Wq.done hS2 e2.symm (λq=>by rw[e2]at q;cases q) (by omega)
 refine Wq.ite (λg=>L18 _ (by simp[g])) (λg=> ?_);exact L18 _ (by simp[g])
theorem N8 (t:aO)(ht:t.ok):gH 76 [t.v] (im t) (qi t) (8*t.z-4):=by
 refine aO.ind (p:=λt=>t.ok->gH 76 [t.v] (im t) (qi t) (8*t.z-4)) (λt ih ht=> ?_) t ht;have ht':=(aO.bm t).1 ht;exact K1 t ht λa ha=>N7 a (ih a ha (ht'.2.2 a ha))
end
section
variable {nx0:Nat}{H0:T OB}
variable {fr:Nat->List Value->TypeId->Prop}{bp:Nat}{l0:List Tok}{b0:Bool}{ok:Bool}{ts:List Tok}{n nx:Nat}{H:T OB}{R:Value->T OB->Nat->Prop}
def gM (c:cS):List Tok:=⟨4,c.s,0,0⟩::bj (λ_ t=>eg [111,102]::qi t) true c.arg
theorem cS.bJ (p:cS):1<=p.z:=by unfold cS.z;omega
theorem GS (l:List aO):dh (λp:aO=>8*p.z-3) l<=8*eF l:=by
 induction l with
 | nil=>simp[dh]
 | cons a l ih=>rw[dh,eF];omega
theorem Fo (c:cS)(hc:c.ok):gH 57 [c.v] (jg c) (gM c) (8*c.z-4):=λfr bp nx0 H0 l0 b0 H nx hn hS=>by
 have hz:c.z=1+c.s.length/8+eF c.arg:=rfl;have hsum:=GS c.arg;obtain⟨h1,h2,h3⟩:=hc;rw[ZZ];refine Wq.qf hS λhS=> ?_;simp only[ab,az,List.length_map,gf,E6];refine Wq.aZ (eG ⟨4,c.s,0,0⟩ (Cl h1)) rfl hS (by omega) λu H2 nx2 hS2=> ?_;refine Wq.aZ (cf _) rfl hS2 (by omega) λu H3 nx3 hS3=> ?_;refine Wq.kx c.arg im (λ_ t=>eg [111,102]::qi t) (λp=>8*p.z-3) (λi H nx=> .jump (xE (ptr bp) (fu c.arg) (i64 (c.arg.length:Int)) (i64 (i:Int)) H nx)) hS3 (by omega) (λH1 av hS1=> ?_) (λi a H1 av ok' ts' n' hg hlt hb hS1 ih'=> ?_)
 . refine Wq.jmp (Jr ..) (λ_=>rfl) ?_;simp only[ab,az,List.length_map,aA];refine Wq.done hS1 ?_ (λ_=> ?_) (by omega)
   . unfold jg;rw[eV];show((true&&(true&&aV ⟨4,c.s,0,0⟩)&&decide (c.arg.length<=1))&&c.arg.all im)=(aV ⟨4,c.s,0,0⟩&&(decide (c.arg.length<=1)&&c.arg.all im));cases aV ⟨4,c.s,0,0⟩<;>cases decide (c.arg.length<=1)<;>cases c.arg.all im<;>rfl
   . unfold gM;simp
 . have hx:(c.arg.map aO.v)[i]? = some a.v:=by simp[hg]
   have hm:=List.mem_of_getElem? hg;have hz:=a.bJ;refine Wq.jmp (Jr ..) (λ_=>rfl) ?_;simp only[ab,az,List.length_map,aE hlt,qH hx];refine Wq.fi dy ej rfl (GD _) (GF _) hS1 λH2 nx2 hS2=> ?_;refine Wq.key [111,102] hS2 (by omega) λu H3 nx3 hS3=> ?_
   try simp only[ab,az,List.length_map]
   refine Wq.aZ (N8 a (h3 a hm)) rfl hS3 (by omega) λu H4 nx4 hS4=> ?_;simp only[ab,ao (show i<9223372036854775807 by have:=cM h2;omega)];exact ih' _ _ (hS4.mono rfl (λ_=>by simp) (by omega))
def kA (x:Data):List Tok:=eg [100,97,116,97,116,121,112,101]::((if 1<x.vars.length then[cN [40]]else[])++(bj (bN [44] λs=>[(⟨5,s,0,0⟩:Tok)]) true x.vars++((if 1<x.vars.length then[cN [41]]else[])++⟨3,x.s,0,0⟩::bj (λb c=>cN (if b=true then[61]else[124])::gM c) true x.cons)))
def iv (x:Data):Bool:=jY x.vars&&(jX x.cons&&(aU 3 x.s&&decide (0<x.cons.length)))
theorem lj (l:List (List UInt8)):jY l=l.all (aU 5):=by
 induction l with
 | nil=>rw[jY];rfl
 | cons a l ih=>rw[jY,ih];rfl
theorem lk (l:List cS):jX l=l.all jg:=by
 induction l with
 | nil=>rw[jX];rfl
 | cons a l ih=>rw[jX,ih];rfl
theorem GU (l:List cS):dh (λp:cS=>8*p.z-3) l<=8*fw l:=by
 induction l with
 | nil=>simp[dh]
 | cons a l ih=>rw[dh,fw];omega
theorem GV (l:List (List UInt8)):dh (λ_=>2) l<=8*dT l:=by
 induction l with
 | nil=>simp[dh]
 | cons a l ih=>rw[dh,dT];omega
theorem yH:P.underlying 113=some (.map 4 9):=by kernel_rfl
theorem K2:P.underlying 4=some .bool:=by kernel_rfl
theorem N9 (x:Data)(hd:x.ok):gH 56 [x.v] (iv x) (kA x) (8*x.z+4):=λfr bp nx0 H0 l0 b0 H nx hn hS=>by
 have hz:x.z=dT x.vars+x.s.length/8+fw x.cons:=rfl;have hs1:=GV x.vars;have hs2:=GU x.cons;obtain⟨⟨h1,h2⟩,h3,h4,h5⟩:=hd;rw[ZY];refine Wq.qf hS λhS=> ?_;refine Wq.key [100,97,116,97,116,121,112,101] hS (by omega) λu H1 av hS1=> ?_;have L28:∀(ts1:List Tok) (n1:Nat) H3 nx3,ts1=eg [100,97,116,97,116,121,112,101]::((if 1<x.vars.length then[cN [40]]else[])++(bj (bN [44] λs=>[(⟨5,s,0,0⟩:Tok)]) true x.vars++(if 1<x.vars.length then[cN [41]]else[])))->n1<=3+dh (λ_=>2) x.vars->St fr bp nx0 H0 l0 b0 (x.vars.all (aU 5)) ts1 n1 H3 nx3->dJ P pl X0 (.jump (xC (ptr bp) (aa x.v) H3 nx3)) nx0 H0 (dW fr bp nx0 H0 l0 b0 (iv x) (kA x) (8*x.z+4)):=by
  intro ts1 n1 H3 nx3 hts1 hn1 hS3;refine Wq.jmp (Sj ..) (λ_=>rfl) ?_;simp only[ab,az,List.length_map,gf,jJ];refine Wq.aZ (eG ⟨3,x.s,0,0⟩ (Cl h3)) rfl hS3 (by omega) λu H4 nx4 hS4=> ?_;refine Wq.aZ (cf _) rfl hS4 (by omega) λu H5 nx5 hS5=> ?_;refine Wq.kx x.cons jg (λb c=>cN (if b=true then[61]else[124])::gM c) (λp=>8*p.z-3) (λi H nx=> .jump (xD (ptr bp) (oT x.cons) (i64 (x.cons.length:Int)) (i64 (i:Int)) H nx)) hS5 (by omega) (λH1 av hS1=> ?_) (λi a H1 av ok' ts' n' hg hlt hb hS1 ih'=> ?_)
  . refine Wq.jmp (Jq ..) (λ_=>rfl) ?_;simp only[ab,az,List.length_map,aA];refine Wq.done hS1 ?_ (λ_=> ?_) (by omega)
    . unfold iv;rw[lj,lk];show(((x.vars.all (aU 5)&&aV ⟨3,x.s,0,0⟩)&&decide (0<x.cons.length))&&x.cons.all jg)=(x.vars.all (aU 5)&&(x.cons.all jg&&(aV ⟨3,x.s,0,0⟩&&decide (0<x.cons.length))));cases x.vars.all (aU 5)<;>cases aV ⟨3,x.s,0,0⟩<;>cases decide (0<x.cons.length)<;>cases x.cons.all jg<;>rfl
    . rw[hts1];unfold kA;simp
  . have hx:(x.cons.map cS.v)[i]? = some a.v:=by simp[hg]
    have hm:=List.mem_of_getElem? hg;have hz:=a.bJ;refine Wq.jmp (Jq ..) (λ_=>rfl) ?_;simp only[ab,az,List.length_map,aE hlt,Ec hx];refine Wq.fi jF mb rfl (VV _) (VW _) hS1 λH2 nx2 hS2=> ?_;refine Wq.AO yH K2 rfl rfl (by kernel_rfl) hS2 λm H3 nx3 hm3 hS3=> ?_;have hl:∀b:Bool,cg P H3 113 (some m) (some (.bool b)) false=some (au (if b=true then[61]else[124])):=by
     intro b;rw[hm3];cases b<;>kernel_rfl
    simp only[ab,az,List.length_map,jH,hl];refine Wq.lK _ hS3 (by omega) λu H3 nx3 hS3=> ?_
    try simp only[ab,az,List.length_map]
    refine Wq.aZ (Fo a (h5 a hm)) rfl hS3 (by omega) λu H4 nx4 hS4=> ?_;simp only[ab,ao (show i<9223372036854775807 by have:=cM h4;omega)];exact ih' _ _ (hS4.mono rfl (λ_=>by simp) (by omega))
 have L10:∀(ts1:List Tok) (n1:Nat) H3 nx3,ts1=eg [100,97,116,97,116,121,112,101]::(if 1<x.vars.length then[cN [40]]else[])->n1<=2->St fr bp nx0 H0 l0 b0 true ts1 n1 H3 nx3->dJ P pl X0 (.jump (xz (ptr bp) (aa x.v) H3 nx3)) nx0 H0 (dW fr bp nx0 H0 l0 b0 (iv x) (kA x) (8*x.z+4)):=by
  intro ts1 n1 H3 nx3 hts1 hn1 hS3;refine Wq.jmp (Sh ..) (λ_=>rfl) ?_
  try simp only[ab,az,List.length_map]
  refine Wq.kx x.vars (aU 5) (bN [44] λs=>[(⟨5,s,0,0⟩:Tok)]) (λ_=>2) (λi H nx=> .jump (xA (ptr bp) (aa x.v) (ml x.vars) (i64 (x.vars.length:Int)) (i64 (i:Int)) H nx)) hS3 (by omega) (λH1 av hS1=> ?_) (λi a H1 av ok' ts' n' hg hlt hb hS1 ih'=> ?_)
  . refine Wq.jmp (Jp ..) (λ_=>rfl) ?_;simp only[ab,az,List.length_map,aA,jI];refine Wq.ite (λg=> ?_) (λg=> ?_)
    . refine Wq.lK [41] hS1 (by omega) λu H3 nx3 hS3=> ?_;exact L28 _ _ _ _ (by rw[hts1];simp[g]) (by omega) (hS3.mono (by simp) (λ_=>rfl) (Nat.le_refl _))
    . exact L28 _ _ _ _ (by rw[hts1];simp[g]) (by omega) (hS1.mono (by simp) (λ_=>rfl) (Nat.le_refl _))
  . have hx:(x.vars.map au)[i]? = some (au a):=by simp[hg]
    have hm:=List.mem_of_getElem? hg;refine Wq.jmp (Jp ..) (λ_=>rfl) ?_;simp only[ab,az,List.length_map,aE hlt,Eb hx];have L:∀ts2 n2 H3 nx3,St fr bp nx0 H0 l0 b0 ok' ts2 n2 H3 nx3->ts2=ts'++(if decide (i=0)=true then[]else[cN [44]])->n2<=n'+1->dJ P pl X0 (.jump (xB (ptr bp) (aa x.v) (au a) (ml x.vars) (i64 (x.vars.length:Int)) (i64 (i:Int)) H3 nx3)) nx0 H0 (dW fr bp nx0 H0 l0 b0 (iv x) (kA x) (8*x.z+4)):=by
     intro ts2 n2 H3 nx3 hS3 e en;subst e;refine Wq.jmp (Si ..) (λ_=>rfl) ?_;simp only[ab,az,List.length_map,gf];refine Wq.aZ (eG ⟨5,a,0,0⟩ (Cl (h2 a hm))) rfl hS3 (by omega) λu H4 nx4 hS4=> ?_;simp only[ab,ao (show i<9223372036854775807 by have:=cM h1;omega)];refine ih' _ _ (hS4.mono rfl (λ_=> ?_) (by omega));unfold bN;simp
    refine Wq.ite (λh=> ?_) (λh=> ?_)
    . refine Wq.lK [44] hS1 (by omega) λu H3 nx3 hS3=> ?_;exact L _ _ _ _ hS3 (by rw[if_neg (by simp;omega)]) (by omega)
    . exact L _ _ _ _ hS1 (by rw[if_pos (by simp;omega)];simp) (by omega)
 simp only[ab,az,List.length_map,jI];refine Wq.ite (λg=> ?_) (λg=> ?_)
 . refine Wq.lK [40] hS1 (by omega) λu H3 nx3 hS3=> ?_;exact L10 _ _ _ _ (by rw[if_pos g];simp) (by omega) hS3
 . exact L10 _ _ _ _ (by rw[if_neg g];simp) (by omega) hS1
abbrev EI:=Int×(List Tok×List (List Tok))
def d_ (x:EI):List Tok:=if lL x.1=true then x.2.1 else cN [40]::(x.2.1++[cN [41]])
def cU (s:List UInt8)(q:List (List Tok)):List Tok:=bj (bN s id) true q
def ec:Bool->List (List Tok)->List (List Tok)->List Tok
 | b,p::ps,x::xs=>(if b=true then[]else[cN [124]])++(p++cN [61,62]::(x++ec false ps xs))
 | _,_,_=>[]
def tO (k n:Int)(s:List UInt8)(q:List EI)(ps ds:List (List Tok)):List Tok:=
 if k=1 then[⟨1,[],n,0⟩]
 else if k=2\/k=3\/k=4 then[⟨k,s,0,0⟩]
 else if k=5 then cN [40]::(cU [44] (q.map d_)++[cN [41]])
 else if k=13 then cN [40]::(cU [59] (q.map d_)++[cN [41]])
 else if k=10 then(match q with | [x]=>eg [108,101,116]::((ds.flatMap λd=>d++[cN [59]])++eg [105,110]::((if x.1=13 then cU [59] x.2.2 else d_ x)++[eg [101,110,100]])) | _=>[])
 else if k=14 then(match q with | [a,b]=>d_ a++tI s::d_ b | _=>[])
 else if k=15 then(match q with | [a]=>tI s::d_ a | _=>[])
 else if k=6 then(q.map d_).flatten
 else if k=8 then(match q with | [a,b,c]=>eg [105,102]::(d_ a++eg [116,104,101,110]::(d_ b++eg [101,108,115,101]::d_ c)) | _=>[])
 else if k=11 then eg [114,97,105,115,101]::cU [59] (q.map d_)
 else if k=7 then eg [102,110]::ec true ps (q.map d_)
 else if k=9 then(match q with | a::r=>eg [99,97,115,101]::(d_ a++eg [111,102]::ec true ps (r.map d_)) | _=>[])
 else if k=12 then(match q with | a::r=>d_ a++eg [104,97,110,100,108,101]::ec true ps (r.map d_) | _=>[])
 else[]
mutual
def iE:aq->List Tok×List (List Tok)
 | .mk k n s l p d=>(tO k n s (vy l) (p.map aS) (AP d),(vy l).map d_)
def vy:List aq->List EI
 | []=>[]
 | e::l=>(e.k,iE e)::vy l
def eM:aG->List Tok
 | .mk k p e f x c=>if k=1 then eg [118,97,108]::(fR p++cN [61]::(iE e).1)else if k=2 then m6 true f else if k=3 then kA x else if k=4 then eg [101,120,99,101,112,116,105,111,110]::gM c else if k=5 then(iE e).1 else[]
def QG:Fn->List Tok
 | .mk s p b=>⟨3,s,0,0⟩::(p.flatMap aS++cN [61]::(iE b).1)
def AP:List aG->List (List Tok)
 | []=>[]
 | d::l=>eM d::AP l
def m6:Bool->List Fn->List Tok
 | _,[]=>[]
 | b,f::l=>eg (if b=true then[102,117,110]else[97,110,100])::(QG f++m6 false l)
end
def dm (e:aq):List Tok:=(iE e).1
def ay (e:aq):List Tok:=d_ (e.k,iE e)
theorem K3 (l:List aq):vy l=l.map λe=>(e.k,iE e):=by
 induction l with
 | nil=>rw[vy];rfl
 | cons p l ih=>rw[vy,ih];rfl
theorem K4 (l:List aG):AP l=l.map eM:=by
 induction l with
 | nil=>rw[AP];rfl
 | cons p l ih=>rw[AP,ih];rfl
theorem rF (e:aq):iE e=(tO e.k e.n e.s (e.l.map λe=>(e.k,iE e)) (e.p.map aS) (e.d.map eM),e.l.map ay):=by
 cases e;rw[iE,K3,K4,List.map_map];rfl
theorem dU (e:aq):dm e=tO e.k e.n e.s (e.l.map λe=>(e.k,iE e)) (e.p.map aS) (e.d.map eM):=by unfold dm;rw[rF]
theorem jm (e:aq):ay e=if lL e.k=true then dm e else cN [40]::(dm e++[cN [41]]):=rfl
theorem Cn (f:Fn):QG f=⟨3,f.s,0,0⟩::(f.p.flatMap aS++cN [61]::dm f.b):=by cases f;rw[QG];rfl
theorem yI (l:List Fn):∀b,m6 b l=bj (λb f=>eg (if b=true then[102,117,110]else[97,110,100])::QG f) b l:=by
 induction l with
 | nil=>intro b;rw[m6];rfl
 | cons p l ih=>intro b;rw[m6,ih,bj];rfl
theorem o0 (d:aG):eM d=if d.k=1 then eg [118,97,108]::(fR d.p++cN [61]::dm d.e)else if d.k=2 then m6 true d.f else if d.k=3 then kA d.x else if d.k=4 then eg [101,120,99,101,112,116,105,111,110]::gM d.c else if d.k=5 then dm d.e else[]:=by cases d;rw[eM];rfl
theorem gN (s:List UInt8)(l:List aq):cU s (l.map ay)=bj (bN s ay) true l:=by
 unfold cU;rw[fA];rfl
theorem gW (s:List UInt8)(l:List aq):cU s ((l.map λe=>(e.k,iE e)).map d_)=bj (bN s ay) true l:=by
 rw[List.map_map];exact gN s l
end
section
variable {nx0:Nat}{H0:T OB}
variable {fr:Nat->List Value->TypeId->Prop}{bp:Nat}{l0:List Tok}{b0:Bool}{ok:Bool}{ts:List Tok}{n nx:Nat}{H:T OB}{R:Value->T OB->Nat->Prop}
theorem GW (e:aq):cP (kl e) e=((decide (e.k=1)||decide (e.n=0))&&((decide (e.k=2\/e.k=3\/e.k=4\/e.k=14\/e.k=15)||decide (e.s=[]))&&((!decide (e.k=1\/e.k=2\/e.k=3\/e.k=4)||decide (e.l.length=0))&&((decide (e.k=7\/e.k=9\/e.k=12)||decide (e.p.length=0))&&(decide (e.k=10)||decide (e.d.length=0)))))):=by
 have A:∀{α:Type} (c:Prop) [Decidable c] (x y:α),((if c then x else y)=x)↔(c\/y=x):=by
  intro α c _ x y
  by_cases h:c<;>simp[h]
 have B:∀{α:Type} (c:Prop) [Decidable c] (x y:α),((if c then y else x)=x)↔(¬c\/y=x):=by
  intro α c _ x y
  by_cases h:c<;>simp[h]
 have C:∀{α:Type} (l:List α),([]=l)↔l.length=0:=by
  intro α l;cases l<;>simp
 obtain⟨k,n,s,l,p,d⟩:=e;rw[Bool.eq_iff_iff,gd];show(aq.mk k (if k=1 then n else 0) (if k=2\/k=3\/k=4\/k=14\/k=15 then s else[]) (if k=1\/k=2\/k=3\/k=4 then[]else l) (if k=7\/k=9\/k=12 then p else[]) (if k=10 then d else[])=aq.mk k n s l p d)↔((decide (k=1)||decide (n=0))&&((decide (k=2\/k=3\/k=4\/k=14\/k=15)||decide (s=[]))&&((!decide (k=1\/k=2\/k=3\/k=4)||decide (l.length=0))&&((decide (k=7\/k=9\/k=12)||decide (p.length=0))&&(decide (k=10)||decide (d.length=0))))))=true;rw[aq.mk.injEq,A,A,B,A,A,C p,C d,C l];rw[Bool.and_eq_true,Bool.and_eq_true,Bool.and_eq_true,Bool.and_eq_true,Bool.or_eq_true,Bool.or_eq_true,Bool.or_eq_true,Bool.or_eq_true,Bool.or_eq_true,decide_eq_true_eq,decide_eq_true_eq,decide_eq_true_eq,decide_eq_true_eq,decide_eq_true_eq,decide_eq_true_eq,decide_eq_true_eq,decide_eq_true_eq,decide_eq_true_eq,Bool.not_eq_true',decide_eq_false_iff_not,eq_comm (a:=(0:Int)),eq_comm (a:=([]:List UInt8))];exact⟨λh=>h.2,λh=>⟨rfl,h⟩⟩
theorem rG (e:aq)(m:Nat)(a b c d:Bool):bR e (m:Int) a b c d=(decide (e.l.length=m)&&bR e (-1) a b c d):=by
 unfold bR;rw[show decide ((m:Int)<0)=false from by simp,show decide ((-1:Int)<0)=true from rfl,nat_eq,Bool.false_or,Bool.true_or,Bool.true_and]
theorem rH (e:aq)(a b c d:Bool):bR e 0 a b c d=(decide (e.l.length=0)&&bR e (-1) a b c d):=rG e 0 a b c d
theorem yJ (e:aq)(a b c d:Bool):bR e 1 a b c d=(decide (e.l.length=1)&&bR e (-1) a b c d):=rG e 1 a b c d
theorem Fp (e:aq)(a b c d:Bool):bR e 2 a b c d=(decide (e.l.length=2)&&bR e (-1) a b c d):=rG e 2 a b c d
theorem N_ (e:aq)(a b c d:Bool):bR e 3 a b c d=(decide (e.l.length=3)&&bR e (-1) a b c d):=rG e 3 a b c d
theorem fS (e:aq):bh e=(bR e (-1) (decide (e.k=2\/e.k=3\/e.k=4\/e.k=14\/e.k=15)) (decide (e.k=1)) (decide (e.k=7\/e.k=9\/e.k=12)) (decide (e.k=10))&&(ba e.l&&((!decide (e.k=7\/e.k=9\/e.k=12)||bz e.p)&&((!decide (e.k=10)||de e.d)&&((!decide (e.k=1\/e.k=2\/e.k=3\/e.k=4)||decide (e.l.length=0))&&fx e.k e.n e.s e.l.length e.p.length e.d))))):=by
 rw[yo,GW];unfold bR;rw[show decide ((-1:Int)<0)=true from rfl];have hp:e.p.length=0->bz e.p=true:=λg=>by rw[List.eq_nil_of_length_eq_zero g];rfl
 have hd:e.d.length=0->de e.d=true:=λg=>by rw[List.eq_nil_of_length_eq_zero g];rw[de]
 generalize fx e.k e.n e.s e.l.length e.p.length e.d=x0;generalize ba e.l=x1;generalize bz e.p=x2 at*;generalize de e.d=x3 at*;generalize decide (e.n=0)=x4;generalize decide (e.s=[])=x5;generalize decide (e.l.length=0)=x6;generalize (decide (e.k=1))=y1;generalize (decide (e.k=2\/e.k=3\/e.k=4\/e.k=14\/e.k=15))=y2;generalize decide (e.k=1\/e.k=2\/e.k=3\/e.k=4)=y3;generalize decide (e.k=7\/e.k=9\/e.k=12)=y4;generalize decide (e.k=10)=y5
 by_cases g1:e.p.length=0<;>by_cases g2:e.d.length=0
 . have h2:=hp g1;have h3:=hd g2;subst h2;subst h3;simp only[g1,g2,decide_true,Bool.or_true,Bool.true_and,Bool.and_true];cases x0<;>cases x1<;>cases x4<;>cases x5<;>cases x6<;>cases y1<;>cases y2<;>cases y3<;>rfl
 . have h2:=hp g1;subst h2;simp only[g1,g2,decide_true,decide_false,Bool.or_true,Bool.or_false,Bool.true_and,Bool.and_true];cases x0<;>cases x1<;>cases x3<;>cases x4<;>cases x5<;>cases x6<;>cases y1<;>cases y2<;>cases y3<;>cases y5<;>rfl
 . have h3:=hd g2;subst h3;simp only[g1,g2,decide_true,decide_false,Bool.or_true,Bool.or_false,Bool.true_and,Bool.and_true];cases x0<;>cases x1<;>cases x2<;>cases x4<;>cases x5<;>cases x6<;>cases y1<;>cases y2<;>cases y3<;>cases y4<;>rfl
 . simp only[g1,g2,decide_false,Bool.or_false];cases y4<;>cases y5<;>simp only[Bool.false_and,Bool.and_false,Bool.true_and,Bool.not_true,Bool.false_or,Bool.and_true]
   all_goals (cases x0<;>cases x1<;>cases x2<;>cases x3<;>cases x4<;>cases x5<;>cases x6<;>cases y1<;>cases y2<;>cases y3<;>rfl)
theorem jn (l:List aq):ba l=l.all bh:=by
 induction l with
 | nil=>rw[ba];rfl
 | cons a l ih=>rw[ba,ih];rfl
theorem fB (l:List aG):de l=l.all eo:=by
 induction l with
 | nil=>rw[de];rfl
 | cons a l ih=>rw[de,ih];rfl
theorem mR (l:List Fn):qM l=l.all E4:=by
 induction l with
 | nil=>rw[qM];rfl
 | cons a l ih=>rw[qM,ih];rfl
theorem aq.bJ (p:aq):1<=p.z:=by rw[aq.fY];omega
theorem vz (l:List aq):dh (λp:aq=>8*p.z-1) l<=8*bO l:=by
 induction l with
 | nil=>simp[dh]
 | cons a l ih=>rw[dh,bO];omega
theorem eI {α:Type}(f:α->List Tok)(l:List α):∀b,bj (λ_=>f) b l=l.flatMap f:=by
 induction l with
 | nil=>intro b;rfl
 | cons a l ih=>intro b;rw[bj,ih,List.flatMap_cons]
theorem Oa (e:aq)(ih:gH 53 [e.v] (bh e) (dm e) (8*e.z-4)):gH 72 [e.v] (bh e) (ay e) (8*e.z-2):=λfr bp nx0 H0 l0 b0 H nx hn hS=>by
 have hz:=e.bJ;rw[q72];refine Wq.qf hS λhS=> ?_;simp only[ab,az,List.length_map];refine Wq.nr (Tu e) hS λH1 av hS1=> ?_;rw[jm];simp only[ab,az,List.length_map];refine Wq.bK (λh=> ?_) (λh=> ?_)
 . rw[if_pos h];refine Wq.aZ ih rfl hS1 (by omega) λu H2 nx2 hS2=> ?_;exact Wq.done hS2 (by simp) (λ_=>by simp) (by omega)
 . rw[if_neg (by rw[h];decide)];refine Wq.lK [40] hS1 (by omega) λu H1 av hS1=> ?_;refine Wq.aZ ih rfl hS1 (by omega) λu H2 nx2 hS2=> ?_;refine Wq.lK [41] hS2 (by omega) λu H3 nx3 hS3=> ?_;exact Wq.done hS3 (by simp) (λ_=>by simp) (by omega)
theorem yK (l:List aq)(s:List UInt8)(hl:l.length<dQ)(ih:∀a,a∈l->gH 72 [a.v] (bh a) (ay a) (8*a.z-2)):gH 69 [eB l,au s] (ba l) (bj (bN s ay) true l) (8*bO l):=λfr bp nx0 H0 l0 b0 H nx hn hS=>by
 have hsum:=vz l;rw[Z_];simp only[ab,az,List.length_map];refine Wq.kx l bh (bN s ay) (λp=>8*p.z-1) (λi H nx=> .jump (EH (ptr bp) (au s) (eB l) (i64 (l.length:Int)) (i64 (i:Int)) H nx)) hS (by omega) (λH1 av hS1=> ?_) (λi a H1 av ok' ts' n' hg hlt hb hS1 ih'=> ?_)
 . refine Wq.jmp (P4 ..) (λ_=>rfl) ?_;simp only[ab,az,List.length_map,aA];exact Wq.done hS1 (by rw[jn];simp) (λ_=>by simp) (by omega)
 . have hx:(l.map aq.v)[i]? = some a.v:=by simp[hg]
   have hm:=List.mem_of_getElem? hg;have hz:=a.bJ;refine Wq.jmp (P4 ..) (λ_=>rfl) ?_;simp only[ab,az,List.length_map,aE hlt,i_ hx];refine Wq.fi bI cj rfl (M1 _) (M3 _) hS1 λH2 nx2 hS2=> ?_;have L:∀ts2 n2 H3 nx3,St fr bp nx0 H0 l0 b0 ok' ts2 n2 H3 nx3->ts2=ts'++(if decide (i=0)=true then[]else[cN s])->n2<=n'+1->dJ P pl X0 (.jump (xN (ptr bp) (au s) (aa a.v) (eB l) (i64 (l.length:Int)) (i64 (i:Int)) H3 nx3)) nx0 H0 (dW fr bp nx0 H0 l0 b0 (ba l) (bj (bN s ay) true l) (8*bO l)):=by
    intro ts2 n2 H3 nx3 hS3 e en;subst e;refine Wq.jmp (Su ..) (λ_=>rfl) ?_;simp only[ab,az,List.length_map];refine Wq.aZ (ih a hm) rfl hS3 (by omega) λu H4 nx4 hS4=> ?_;simp only[ab,ao (show i<9223372036854775807 by have:=cM hl;omega)];refine ih' _ _ (hS4.mono rfl (λ_=> ?_) (by omega));unfold bN;simp
   refine Wq.ite (λh=> ?_) (λh=> ?_)
   . refine Wq.lK s hS2 (by omega) λu H3 nx3 hS3=> ?_;exact L _ _ _ _ hS3 (by rw[if_neg (by simp;omega)]) (by omega)
   . exact L _ _ _ _ hS2 (by rw[if_pos (by simp;omega)];simp) (by omega)
def o4 (p:List aB)(l:List aq):Bool:=decide (p.length=l.length)&&decide (0<l.length)
theorem Fq (p:List aB)(l:List aq)(hp:p.length<dQ)(hl:l.length<dQ)(hpo:∀a,a∈p->a.ok)(ih:∀a,a∈l->gH 72 [a.v] (bh a) (ay a) (8*a.z-2)):gH 87 [bL p,eB l] (o4 p l&&(bz p&&ba l)) (ec true (p.map aS) (l.map ay)) (8*bB p+8*bO l):=λfr bp nx0 H0 l0 b0 H nx hn hS=>by
 rw[q87];have key:∀(d i:Nat),l.length-i=d->i<=l.length->i<=p.length->∀(ok':Bool) (ts':List Tok) (n':Nat) H1 av,(b0=false->ok'=true->p.length=l.length)->l0.length+n'+8*bB (p.drop i)+8*bO (l.drop i)<=100000->n'+8*bB (p.drop i)+8*bO (l.drop i)<=8*bB p+8*bO l->(ok'&&(bz (p.drop i)&&ba (l.drop i)))=(o4 p l&&(bz p&&ba l))->(p.length=l.length->ts'++ec (decide (i=0)) ((p.drop i).map aS) ((l.drop i).map ay)=ec true (p.map aS) (l.map ay))->St fr bp nx0 H0 l0 b0 ok' ts' n' H1 av->dJ P pl X0 (.jump (ER (ptr bp) (bL p) (eB l) (i64 (i:Int)) H1 av)) nx0 H0 (dW fr bp nx0 H0 l0 b0 (o4 p l&&(bz p&&ba l)) (ec true (p.map aS) (l.map ay)) (8*bB p+8*bO l)):=by
  intro d
  induction d with
  | zero=>
    intro i hd hi hip ok' ts' n' H1 av hq hb1 hb2 hok hts hS1;obtain rfl:i=l.length:=by omega
    refine Wq.jmp (P6 ..) (λ_=>rfl) ?_;simp only[ab,az,List.length_map,aA]
    by_cases g:p.length=l.length
    . have e1:p.drop l.length=[]:=by rw[<- g,List.drop_length]
      rw[e1,List.drop_length]at hok hts;refine Wq.done hS1 (by rw[<- hok];simp[bz,ba]) (λ_=>by rw[<- hts g];simp[ec]) (by omega)
    . have e:o4 p l=false:=by unfold o4;simp[g]
      have hf:(b0 || !ok')=true:=by
       cases b0 with
       | true=>rfl
       | false=>cases ok' with
         | false=>rfl
         | true=>exact absurd (hq rfl rfl) g
      exact Wq.skip hS1 hf (λ_ _=>by rw[e];rfl) (by omega)
  | succ d ihd=>
    intro i hd hi hip ok' ts' n' H1 av hq hb1 hb2 hok hts hS1;have hlt:i<l.length:=by omega
    refine Wq.jmp (P6 ..) (λ_=>rfl) ?_;simp only[ab,az,List.length_map,aE hlt,Tt];refine Wq.ite (λhip'=> ?_) (λhip'=> ?_)
    . have hgl:l[i]? = some l[i]:=List.getElem?_eq_getElem hlt;have hgp:p[i]? = some p[i]:=List.getElem?_eq_getElem hip';have hml:=List.mem_of_getElem? hgl;have hmp:=List.mem_of_getElem? hgp;have hx:(l.map aq.v)[i]? = some l[i].v:=by simp[hgl]
      have hy:(p.map aB.v)[i]? = some p[i].v:=by simp[hgp]
      rw[List.drop_eq_getElem_cons hlt,List.drop_eq_getElem_cons hip']at hb1 hb2 hok hts;rw[bB,bO]at hb1 hb2;have z1:=l[i].bJ;have z2:=p[i].bJ;have L14:∀(ts2:List Tok) (n2:Nat) H3 nx3,ts2=ts'++(if decide (i=0)=true then[]else[cN [124]])->n2<=n'+1->St fr bp nx0 H0 l0 b0 ok' ts2 n2 H3 nx3->dJ P pl X0 (.jump (yd (ptr bp) (bL p) (eB l) (i64 (i:Int)) H3 nx3)) nx0 H0 (dW fr bp nx0 H0 l0 b0 (o4 p l&&(bz p&&ba l)) (ec true (p.map aS) (l.map ay)) (8*bB p+8*bO l)):=by
       intro ts2 n2 H3 nx3 e2 en hS3;refine Wq.jmp (SM ..) (λ_=>rfl) ?_;simp only[ab,az,List.length_map,i_ hx,ke hy];refine Wq.aZ (AN _ (hpo _ hmp)) rfl hS3 (by omega) λu H4 nx4 hS4=> ?_;refine Wq.lK [61,62] hS4 (by omega) λu H5 nx5 hS5=> ?_
       try simp only[ab,az,List.length_map,i_ hx]
       refine Wq.aZ (ih _ hml) rfl hS5 (by omega) λu H6 nx6 hS6=> ?_;simp only[ab,ao (show i<9223372036854775807 by have:=cM hl;omega)];refine ihd (i+1) (by omega) (by omega) (by omega) _ _ _ H6 nx6 (λg1 g2=>hq g1 (by
        cases ok' with
        | true=>rfl
        | false=>simp at g2)) (by omega) (by omega) ?_ (λg=> ?_) hS6
       . rw[<- hok,bz,ba];cases ok'<;>cases bx p[i]<;>cases bh l[i]<;>cases bz (List.drop (i+1) p)<;>cases ba (List.drop (i+1) l)<;>rfl
       . rw[<- hts g,e2,List.map_cons,List.map_cons,ec,show decide (i+1=0)=false from by simp];simp only[List.append_assoc,List.cons_append,List.nil_append]
      refine Wq.ite (λh=> ?_) (λh=> ?_)
      . refine Wq.lK [124] hS1 (by omega) λu H3 nx3 hS3=> ?_;exact L14 _ _ _ _ (by rw[if_neg (by simp;omega)]) (by omega) hS3
      . exact L14 _ _ _ _ (by rw[if_pos (by simp;omega)];simp) (by omega) hS1
    . have g:p.length≠l.length:=by omega
      have e:o4 p l=false:=by unfold o4;simp[g]
      have hf:(b0 || !ok')=true:=by
       cases b0 with
       | true=>rfl
       | false=>cases ok' with
         | false=>rfl
         | true=>exact absurd (hq rfl rfl) g
      exact Wq.skip hS1 hf (λ_ _=>by rw[e];rfl) (by omega)
 have L4:∀(c:Bool),c=o4 p l->dJ P pl X0 (bQ (.call 49 [ptr bp,.bool c] false none H nx) (λx H' nx'=> .jump (EP (ptr bp) (bL p) (eB l) H' nx')) gg) nx0 H0 (dW fr bp nx0 H0 l0 b0 (o4 p l&&(bz p&&ba l)) (ec true (p.map aS) (l.map ay)) (8*bB p+8*bO l)):=by
  intro c hc;refine Wq.aZ (cf c) rfl hS (by omega) λu H2 nx2 hS2=> ?_;refine Wq.jmp (VL ..) (λ_=>rfl) ?_;refine key l.length 0 rfl (Nat.zero_le _) (Nat.zero_le _) _ _ _ H2 nx2 (λ_ g=> ?_) (by simp only[List.drop_zero];omega) (by simp only[List.drop_zero];omega) (by simp only[List.drop_zero];rw[hc];simp) (λ_=>by simp) hS2;rw[hc]at g;unfold o4 at g;simp at g;exact g.1
 unfold o4 at L4 ⊢;simp only[ab,az,List.length_map,nat_eq,jJ];refine Wq.ite (λg=> ?_) (λg=>L4 _ (by simp[g]));exact L4 _ (by simp[g])
end
section
variable {nx0:Nat}{H0:T OB}
variable {fr:Nat->List Value->TypeId->Prop}{bp:Nat}{l0:List Tok}{b0:Bool}{ok:Bool}{ts:List Tok}{n nx:Nat}{H:T OB}{R:Value->T OB->Nat->Prop}
theorem Ob {α:Type}(l:List α)(p q:α->Bool):(l.all λa=>p a&&q a)=(l.all p&&l.all q):=by
 induction l with
 | nil=>rfl
 | cons a l ih=>simp only[List.all_cons,ih];cases p a<;>cases q a<;>cases l.all p<;>cases l.all q<;>rfl
theorem yL (es:List Value)(H:T OB)(h:1<=es.length):bA P H 42 (some (aM 6 es)) (some (some (i64 1))) (some none) (some none)=some (aM 6 (es.drop 1)):=by
 have e1:pf P 42=some 6:=by kernel_rfl
 show af (pf P 42) (λz=>bif Nat.beq 6 z then af (bound (some (some (i64 1))) 0) (λl=>af (bound (some none) es.length) (λh=>UB es 6 l h) none) none else none) none=_;rw[e1,ax];show UB es 6 1 es.length=_;unfold UB;rw[Nat.ble_eq_true_of_le h,Nat.ble_eq_true_of_le (Nat.le_refl _),List.take_of_length_le (by rw[List.length_drop];omega)];rfl
theorem Yw {α:Type}{l:List α}(h:l.length=3):∃x y z,l=[x,y,z]:=by
 match l,h with
 | [x,y,z],_=>exact⟨x,y,z,rfl⟩
theorem vA (l:List aG):dh (λd:aG=>8*d.z) l=8*ek l:=by
 induction l with
 | nil=>rfl
 | cons a l ih=>rw[dh,ih,ek];omega
theorem aG.bJ (p:aG):1<=p.z:=by rw[aG.fY];omega
theorem Oc (e:aq)(hk:e.k=10)(h:e.ok)(hE:∀c,c∈e.l->gH 72 [c.v] (bh c) (ay c) (8*c.z-2))(hE2:∀c,c∈e.l->∀a,a∈c.l->gH 72 [a.v] (bh a) (ay a) (8*a.z-2))(hD:∀d,d∈e.d->gH 30 [d.v] (eo d) (eM d) (8*d.z-2)):gH 70 [e.v] (bh e) (dm e) (8*e.z-4):=λfr bp nx0 H0 l0 b0 H nx hn hS=>by
 rw[aq.bm]at h;obtain⟨_,_,⟨hl1,hl2⟩,_,hd1,hd2⟩:=h;have hz:=e.fY;have e0:bh e=(bR e (-1) false false false true&&(ba e.l&&(de e.d&&((e.d.all λd=>decide (d.k=1)||decide (d.k=2))&&decide (e.l.length=1))))):=by
  rw[fS,hk];rfl
 rw[q70];refine Wq.qf hS λhS=> ?_;simp only[ab,az,List.length_map];refine Wq.aZ (fg e 1 false false false true) rfl hS (by omega) λu H1 av hS1=> ?_;rw[yJ]at hS1;simp only[ab,gb,hS1.bad];refine Wq.bK (λhb=> ?_) (λhb=> ?_)
 . refine Wq.skip hS1 hb (λ_ g=> ?_) (by omega);rw[e0]
   revert g
   cases decide (e.l.length=1)<;>cases bR e (-1) false false false true<;>simp
 . have hg:b0=false/\(decide (e.l.length=1)&&bR e (-1) false false false true)=true:=by
    revert hb
    cases b0<;>cases(decide (e.l.length=1)&&bR e (-1) false false false true)<;>simp
   obtain⟨hb0,hg⟩:=hg;rw[Bool.and_eq_true,decide_eq_true_eq]at hg;obtain⟨x,hl⟩:∃x,e.l=[x]:=List.length_eq_one_iff.1 hg.1;have hxm:x∈e.l:=by rw[hl];simp
   have zl:bO e.l=x.z+0:=by rw[hl];rfl
   have hxz:=x.fY;have e1:dm e=eg [108,101,116]::((e.d.flatMap λd=>eM d++[cN [59]])++eg [105,110]::((if x.k=13 then bj (bN [59] ay) true x.l else ay x)++[eg [101,110,100]])):=by
    rw[dU,hk,hl];show eg [108,101,116]::(((e.d.map eM).flatMap λd=>d++[cN [59]])++eg [105,110]::((if x.k=13 then cU [59] (iE x).2 else ay x)++[eg [101,110,100]]))=_;rw[rF x,List.flatMap_map];show eg [108,101,116]::((e.d.flatMap λd=>eM d++[cN [59]])++eg [105,110]::((if x.k=13 then cU [59] (x.l.map ay)else ay x)++[eg [101,110,100]]))=_;rw[gN]
   have e2:bh e=((e.d.all λd=>(decide (d.k=1)||decide (d.k=2))&&eo d)&&bh x):=by
    rw[e0,hg.2,hl,Ob,fB];simp only[ba];simp only[Bool.true_and,Bool.and_true,Bool.and_assoc,Bool.and_comm,Bool.and_left_comm];simp
    try simp only[Bool.true_and,Bool.and_true,Bool.and_assoc,Bool.and_comm,Bool.and_left_comm]
   refine Wq.key [108,101,116] hS1 (by omega) λu H2 nx2 hS2=> ?_;have hsum:=vA e.d
   try simp only[ab,az,List.length_map]
   refine Wq.kx e.d (λd=>(decide (d.k=1)||decide (d.k=2))&&eo d) (λ_ d=>eM d++[cN [59]]) (λd=>8*d.z) (λi H nx=> .jump (xO (ptr bp) (aa e.v) (ca e.d) (i64 (e.d.length:Int)) (i64 (i:Int)) H nx)) hS2 (by omega) (λH1 av hS1=> ?_) (λi a H1 av ok' ts' n' hg hlt hb hS1 ih'=> ?_)
   . refine Wq.jmp (Jy ..) (λ_=>rfl) ?_;have hx0:(e.l.map aq.v)[0]? = some x.v:=by rw[hl];rfl
     have hx:=i_ hx0 .i64;rw[show((0:Nat):Int)=0 from rfl]at hx;simp only[ab,az,List.length_map,aA,hx];refine Wq.key [105,110] hS1 (by omega) λu H2 nx2 hS2=> ?_;refine Wq.fi bI cj rfl (M1 _) (M3 _) hS2 λH3 nx3 hS3=> ?_;have L38:∀(r:Bool) (ts2:List Tok) (n2:Nat) H4 nx4,r=bh e->ts2++[eg [101,110,100]]=dm e->n2+1<=8*e.z-4->St fr bp nx0 H0 l0 b0 r ts2 n2 H4 nx4->dJ P pl X0 (.jump (xQ (ptr bp) H4 nx4)) nx0 H0 (dW fr bp nx0 H0 l0 b0 (bh e) (dm e) (8*e.z-4)):=by
      intro r ts2 n2 H4 nx4 hr hts hn2 hS4;refine Wq.jmp (Sw ..) (λ_=>rfl) ?_;refine Wq.key [101,110,100] hS4 (by omega) λu H5 nx5 hS5=> ?_;exact Wq.done hS5 hr (λ_=>hts) (by omega)
     try simp only[ab,az,List.length_map]
     refine Wq.ite (λhk13=> ?_) (λhk13=> ?_)
     . have e3:bh x=(bR x (-1) false false false false&&(ba x.l&&decide (1<x.l.length))):=by
        rw[fS,hk13];rfl
       have hxo:=(aq.bm x).1 (hl2 x hxm);refine Wq.aZ (fg x (-1) false false false false) rfl hS3 (by omega) λu H4 nx4 hS4=> ?_
       try simp only[ab,az,List.length_map,jI]
       try rw[jI]
       refine Wq.aZ (cf _) rfl hS4 (by omega) λu H5 nx5 hS5=> ?_
       try simp only[ab,az,List.length_map]
       refine Wq.aZ (yK x.l [59] hxo.2.2.1.1 (hE2 x hxm)) rfl hS5 (by omega) λu H6 nx6 hS6=> ?_;refine L38 _ _ _ _ _ ?_ ?_ (by omega) hS6
       . rw[e2,e3,hg.2];simp only[hg.1,decide_true];simp only[Bool.true_and,Bool.and_true,Bool.and_assoc,Bool.and_comm,Bool.and_left_comm]
       . rw[e1,if_pos hk13,eI];simp
     . refine Wq.aZ (hE x hxm) rfl hS3 (by omega) λu H4 nx4 hS4=> ?_;refine L38 _ _ _ _ _ ?_ ?_ (by omega) hS4
       . rw[e2,hg.2];simp only[hg.1,decide_true];simp only[Bool.true_and,Bool.and_true,Bool.and_assoc,Bool.and_comm,Bool.and_left_comm]
       . rw[e1,if_neg hk13,eI];simp
   . have hx:(e.d.map aG.v)[i]? = some a.v:=by simp[hg]
     have hm:=List.mem_of_getElem? hg;have hz:=a.bJ;refine Wq.jmp (Jy ..) (λ_=>rfl) ?_;simp only[ab,az,List.length_map,aE hlt,Ac hx];refine Wq.fi dx fJ rfl (M4 _) (M5 _) hS1 λH2 nx2 hS2=> ?_;have F:∀c:Bool,c=(decide (a.k=1)||decide (a.k=2))->dJ P pl X0 (bQ (.call 49 [ptr bp,.bool c] false none H2 nx2) (λx H' nx'=> .jump (xP (ptr bp) (aa e.v) (aa a.v) (ca e.d) (i64 (e.d.length:Int)) (i64 (i:Int)) H' nx')) gg) nx0 H0 (dW fr bp nx0 H0 l0 b0 (bh e) (dm e) (8*e.z-4)):=by
      intro c hc;refine Wq.aZ (cf c) rfl hS2 (by omega) λu H3 nx3 hS3=> ?_;refine Wq.jmp (Sv ..) (λ_=>rfl) ?_;simp only[ab,az,List.length_map];refine Wq.aZ (hD a hm) rfl hS3 (by omega) λu H4 nx4 hS4=> ?_;refine Wq.lK [59] hS4 (by omega) λu H5 nx5 hS5=> ?_;simp only[ab,ao (show i<9223372036854775807 by have:=cM hd1;omega)];exact ih' _ _ (hS5.mono (by rw[hc,Bool.and_assoc]) (λ_=>by simp) (by omega))
     refine Wq.ite (λg=>F _ (by simp[g])) (λg=> ?_);exact F _ (by simp[g])
theorem Od (e:aq)(hk:¬(e.k=1\/e.k=2\/e.k=3\/e.k=4\/e.k=5\/e.k=13\/e.k=10\/e.k=14\/e.k=15\/e.k=6))(h:e.ok)(hE:∀c,c∈e.l->gH 72 [c.v] (bh c) (ay c) (8*c.z-2)):gH 75 [e.v] (bh e) (dm e) (8*e.z-4):=λfr bp nx0 H0 l0 b0 H nx hn hS=>by
 rw[aq.bm]at h;obtain⟨_,_,⟨hl1,hl2⟩,⟨hp1,hp2⟩,hd1,hd2⟩:=h;have hz:=e.fY;rw[q75];refine Wq.qf hS λhS=> ?_;simp only[ab,az,List.length_map];refine Wq.ite (λhk8=> ?_) (λh8=> ?_)
 . have e0:bh e=(bR e (-1) false false false false&&(ba e.l&&decide (e.l.length=3))):=by rw[fS,hk8];rfl
   refine Wq.aZ (fg e 3 false false false false) rfl hS (by omega) λu H1 av hS1=> ?_;rw[N_]at hS1;simp only[ab,gb,hS1.bad];refine Wq.bK (λhb=> ?_) (λhb=> ?_)
   . have hg:b0=false/\(decide (e.l.length=3)&&bR e (-1) false false false false)=true:=by
      revert hb
      cases b0<;>cases(decide (e.l.length=3)&&bR e (-1) false false false false)<;>simp
     obtain⟨hb0,hg⟩:=hg;rw[Bool.and_eq_true,decide_eq_true_eq]at hg;obtain⟨x,y,z,hl⟩:∃x y z,e.l=[x,y,z]:=Yw hg.1;have e1:dm e=eg [105,102]::(ay x++eg [116,104,101,110]::(ay y++eg [101,108,115,101]::ay z)):=by rw[dU,hk8,hl];rfl
     have zl:bO e.l=x.z+(y.z+(z.z+0)):=by rw[hl];rfl
     have z1:=x.bJ;have z2:=y.bJ;have z3:=z.bJ;have hx0:(e.l.map aq.v)[0]? = some x.v:=by rw[hl];rfl
     have hx:=i_ hx0 .i64;rw[show((0:Nat):Int)=0 from rfl]at hx;have hy0:(e.l.map aq.v)[1]? = some y.v:=by rw[hl];rfl
     have hy:=i_ hy0 .i64;rw[show((1:Nat):Int)=1 from rfl]at hy;have hw0:(e.l.map aq.v)[2]? = some z.v:=by rw[hl];rfl
     have hw:=i_ hw0 .i64;rw[show((2:Nat):Int)=2 from rfl]at hw;simp only[ab,az,List.length_map,hx,hy,hw];refine Wq.key [105,102] hS1 (by omega) λu H2 nx2 hS2=> ?_;refine Wq.aZ (hE x (by rw[hl];simp)) rfl hS2 (by omega) λu H3 nx3 hS3=> ?_;refine Wq.key [116,104,101,110] hS3 (by omega) λu H4 nx4 hS4=> ?_;refine Wq.aZ (hE y (by rw[hl];simp)) rfl hS4 (by omega) λu H5 nx5 hS5=> ?_;refine Wq.key [101,108,115,101] hS5 (by omega) λu H6 nx6 hS6=> ?_;refine Wq.aZ (hE z (by rw[hl];simp)) rfl hS6 (by omega) λu H7 nx7 hS7=> ?_;refine Wq.done hS7 ?_ (λ_=>by rw[e1];simp) (by omega);rw[e0,hg.2,hl];simp[ba,Bool.and_assoc]
   . refine Wq.skip hS1 (by rw[Bool.not_eq_false']at hb;exact hb) (λ_ g=> ?_) (by omega);rw[e0]
     revert g
     cases decide (e.l.length=3)<;>cases bR e (-1) false false false false<;>simp
 refine Wq.ite (λhk11=> ?_) (λh11=> ?_)
 . have e0:bh e=(bR e (-1) false false false false&&(ba e.l&&decide (e.l.length=1))):=by rw[fS,hk11];rfl
   have e1:dm e=eg [114,97,105,115,101]::bj (bN [59] ay) true e.l:=by
    rw[dU,hk11,<- gW];rfl
   refine Wq.aZ (fg e 1 false false false false) rfl hS (by omega) λu H1 av hS1=> ?_;rw[yJ]at hS1;refine Wq.key [114,97,105,115,101] hS1 (by omega) λu H2 nx2 hS2=> ?_
   try simp only[ab,az,List.length_map]
   refine Wq.aZ (yK e.l [59] hl1 hE) rfl hS2 (by omega) λu H6 nx6 hS6=> ?_;refine Wq.done hS6 ?_ (λ_=>by rw[e1];simp) (by omega);rw[e0];simp only[Bool.true_and,Bool.and_true,Bool.and_assoc,Bool.and_comm,Bool.and_left_comm]
 refine Wq.ite (λhk7=> ?_) (λh7=> ?_)
 . have e0:bh e=(bR e (-1) false false true false&&(ba e.l&&(bz e.p&&(decide (0<e.l.length)&&decide (e.p.length=e.l.length))))):=by rw[fS,hk7];rfl
   have e1:dm e=eg [102,110]::ec true (e.p.map aS) (e.l.map ay):=by
    rw[dU,hk7];show eg [102,110]::ec true (e.p.map aS) ((e.l.map λe=>(e.k,iE e)).map d_)=_;rw[List.map_map];rfl
   refine Wq.aZ (fg e (-1) false false true false) rfl hS (by omega) λu H1 av hS1=> ?_;refine Wq.key [102,110] hS1 (by omega) λu H2 nx2 hS2=> ?_
   try simp only[ab,az,List.length_map]
   refine Wq.aZ (Fq e.p e.l hp1 hl1 hp2 hE) rfl hS2 (by omega) λu H6 nx6 hS6=> ?_;refine Wq.done hS6 ?_ (λ_=>by rw[e1];simp) (by omega);rw[e0];unfold o4;simp only[Bool.true_and,Bool.and_true,Bool.and_assoc,Bool.and_comm,Bool.and_left_comm]
 have L46:∀b:Bool,b=decide (e.k=9\/e.k=12)->dJ P pl X0 (.jump (xR (ptr bp) (aa e.v) b H (nx+1))) nx0 H0 (dW fr bp nx0 H0 l0 b0 (bh e) (dm e) (8*e.z-4)):=by
  intro b hb;refine Wq.jmp (Sx ..) (λ_=>rfl) ?_;cases b with
  | false=>
    have hk2:=of_decide_eq_false hb.symm;have e0:bh e=false:=by
     rw[fS];have:fx e.k e.n e.s e.l.length e.p.length e.d=false:=by
      unfold fx;rw[if_neg (by omega),if_neg (by omega),if_neg (by omega),if_neg (by omega),if_neg (by omega),if_neg (by omega),if_neg (by omega),if_neg (by omega),if_neg (by omega),if_neg hk2,if_neg (by omega),if_neg (by omega),if_neg (by omega),if_neg (by omega)]
     rw[this];simp
    try simp only[ab,az,List.length_map]
    refine Wq.bad hS λH2 hS2=> ?_;exact Wq.done hS2 e0.symm (λq=>by rw[e0]at q;cases q) (by omega)
  | true=>
    have hk2:=of_decide_eq_true hb.symm;have e0:bh e=(bR e (-1) false false true false&&(ba e.l&&(bz e.p&&(decide (1<e.l.length)&&decide (e.p.length+1=e.l.length))))):=by
     rw[fS];rcases hk2 with hk2 | hk2<;>(rw[hk2];rfl)
    simp only[ab,az,List.length_map,jI];refine Wq.aZ (fg e (-1) false false true false) rfl hS (by omega) λu H1 av hS1=> ?_;refine Wq.aZ (cf _) rfl hS1 (by omega) λu H2 nx2 hS2=> ?_;simp only[ab,gb,hS2.bad];refine Wq.bK (λhb=> ?_) (λhb=> ?_)
    . refine Wq.skip hS2 hb (λ_ g=> ?_) (by omega);rw[e0]
      revert g
      cases decide (1<e.l.length)<;>cases bR e (-1) false false true false<;>simp
    . have hg:b0=false/\(bR e (-1) false false true false&&decide (1<e.l.length))=true:=by
       revert hb
       rw[Bool.true_and];cases b0<;>cases(bR e (-1) false false true false&&decide (1<e.l.length))<;>simp
      obtain⟨hb0,hg⟩:=hg;rw[Bool.and_eq_true,decide_eq_true_eq]at hg;obtain⟨x,r,hl⟩:∃x r,e.l=x::r:=by
       match hl:e.l with
       | []=>rw[hl]at hg;exact absurd hg.2 (by simp)
       | x::r=>exact⟨x,r,rfl⟩
      have hlr:e.l.length=r.length+1:=by rw[hl];rfl
      have zl:bO e.l=x.z+bO r:=by rw[hl];rfl
      have e1:dm e=(if e.k=9 then[eg [99,97,115,101]]else[])++(ay x++eg (if e.k=9 then[111,102]else[104,97,110,100,108,101])::ec true (e.p.map aS) (r.map ay)):=by
       rw[dU,hl];rcases hk2 with hk2 | hk2
       . rw[hk2];show eg [99,97,115,101]::(ay x++eg [111,102]::ec true (e.p.map aS) ((r.map λe=>(e.k,iE e)).map d_))=_;rw[List.map_map];rfl
       . rw[hk2];show ay x++eg [104,97,110,100,108,101]::ec true (e.p.map aS) ((r.map λe=>(e.k,iE e)).map d_)=_;rw[List.map_map];rfl
      have z1:=x.bJ;have hx0:(e.l.map aq.v)[0]? = some x.v:=by rw[hl];rfl
      have hx:=i_ hx0 .i64;rw[show((0:Nat):Int)=0 from rfl]at hx;have L56:∀(ts2:List Tok) (n2:Nat) H4 nx4,ts2=(if e.k=9 then[eg [99,97,115,101]]else[])->n2<=1->St fr bp nx0 H0 l0 b0 true ts2 n2 H4 nx4->dJ P pl X0 (.jump (xS (ptr bp) (aa e.v) H4 nx4)) nx0 H0 (dW fr bp nx0 H0 l0 b0 (bh e) (dm e) (8*e.z-4)):=by
       intro ts2 n2 H4 nx4 hts hn2 hS4;refine Wq.jmp (Sy ..) (λ_=>rfl) ?_;simp only[ab,az,List.length_map,hx];refine Wq.aZ (hE x (by rw[hl];simp)) rfl hS4 (by omega) λu H5 nx5 hS5=> ?_;refine Wq.AO yH K2 rfl rfl (by kernel_rfl) hS5 λm H6 nx6 hm6 hS6=> ?_;have hlk:∀b:Bool,cg P H6 113 (some m) (some (.bool b)) false=some (au (if b=true then[111,102]else[104,97,110,100,108,101])):=by
        intro b;rw[hm6];cases b<;>kernel_rfl
       simp only[ab,az,List.length_map,hlk,decide_eq_true_eq];refine Wq.key _ hS6 (by omega) λu H7 nx7 hS7=> ?_;rw[yL _ _ (by simp;omega)];have ed:(e.l.map aq.v).drop 1=r.map aq.v:=by rw[hl];rfl
       rw[ed];simp only[ab,az,List.length_map];refine Wq.aZ (Fq e.p r hp1 (by omega) hp2 λa ha=>hE a (by rw[hl];simp[ha])) rfl hS7 (by omega) λu H8 nx8 hS8=> ?_;refine Wq.done hS8 ?_ (λ_=>by rw[e1,hts];simp) (by omega);rw[e0,hg.1,hl];unfold o4;have g1:decide (1<(x::r).length)=decide (0<r.length):=by rw[decide_eq_decide];simp
       have g2:decide (e.p.length+1=(x::r).length)=decide (e.p.length=r.length):=by rw[decide_eq_decide];simp
       rw[g1,g2];simp only[ba];simp only[Bool.true_and,Bool.and_true,Bool.and_assoc,Bool.and_comm,Bool.and_left_comm]
      try simp only[ab,az,List.length_map]
      have hrt:(true&&bR e (-1) false false true false&&decide (1<e.l.length))=true:=by rw[hg.1,Bool.true_and,Bool.true_and];simp;omega
      rw[hrt]at hS2;refine Wq.ite (λg=> ?_) (λg=> ?_)
      . refine Wq.key [99,97,115,101] hS2 (by omega) λu H3 nx3 hS3=> ?_;exact L56 _ _ _ _ (by rw[if_pos g];simp) (by omega) hS3
      . exact L56 _ _ _ _ (by rw[if_neg g];simp) (by omega) hS2
 refine Wq.ite (λg=>L46 _ (by simp[g])) (λg=> ?_);exact L46 _ (by simp[g])
end
section
variable {nx0:Nat}{H0:T OB}
variable {fr:Nat->List Value->TypeId->Prop}{bp:Nat}{l0:List Tok}{b0:Bool}{ok:Bool}{ts:List Tok}{n nx:Nat}{H:T OB}{R:Value->T OB->Nat->Prop}
theorem Yx {α:Type}{l:List α}(h:l.length=2):∃x y,l=[x,y]:=by
 match l,h with
 | [x,y],_=>exact⟨x,y,rfl⟩
theorem K5 (e:aq)(h:e.ok)(hE:∀c,c∈e.l->gH 72 [c.v] (bh c) (ay c) (8*c.z-2))(hE2:∀c,c∈e.l->∀a,a∈c.l->gH 72 [a.v] (bh a) (ay a) (8*a.z-2))(hD:∀d,d∈e.d->gH 30 [d.v] (eo d) (eM d) (8*d.z-2)):gH 53 [e.v] (bh e) (dm e) (8*e.z-4):=λfr bp nx0 H0 l0 b0 H nx hn hS=>by
 have h':=h;rw[aq.bm]at h;obtain⟨_,hs,⟨hl1,hl2⟩,⟨hp1,hp2⟩,hd1,hd2⟩:=h;have hz:=e.fY;have hsum:=vz e.l;rw[ZV];refine Wq.qf hS λhS=> ?_;simp only[ab,az,List.length_map,gf,ym];refine Wq.ite (λhk=> ?_) (λh1=> ?_)
 . have e0:bh e=(bR e (-1) false true false false&&(ba e.l&&(decide (e.l.length=0)&&aV ⟨1,[],e.n,0⟩))):=by
    rw[fS,hk];have:aV ⟨1,[],e.n,0⟩=fx 1 e.n e.s e.l.length e.p.length e.d:=by unfold aV;simp[fx]
    rw[this];rfl
   have hx0:e.l.length=0->ba e.l=true:=λg=>by rw[List.eq_nil_of_length_eq_zero g];rw[ba]
   refine Wq.aZ (fg e 0 false true false false) rfl hS (by omega) λu H1 av hS1=> ?_
   try simp only[ab,az,List.length_map]
   refine Wq.aZ (eG ⟨1,[],e.n,0⟩ (by first | exact Cl hs | simp)) rfl hS1 (by omega) λu H2 nx2 hS2=> ?_;refine Wq.done hS2 ?_ (λ_=>by rw[dU,hk];rfl) (by omega);rw[e0,rH];generalize aV ⟨1,[],e.n,0⟩=y
   by_cases g:e.l.length=0
   . rw[hx0 g];simp only[g,decide_true];simp only[Bool.true_and,Bool.and_true,Bool.and_assoc,Bool.and_comm,Bool.and_left_comm]
   . simp[g]
 refine Wq.ite (λhk=> ?_) (λh2=> ?_)
 . have e0:bh e=(bR e (-1) true false false false&&(ba e.l&&(decide (e.l.length=0)&&aV ⟨2,e.s,0,0⟩))):=by
    rw[fS,hk];have:aV ⟨2,e.s,0,0⟩=fx 2 e.n e.s e.l.length e.p.length e.d:=by unfold aV;simp[fx]
    rw[this];rfl
   have hx0:e.l.length=0->ba e.l=true:=λg=>by rw[List.eq_nil_of_length_eq_zero g];rw[ba]
   refine Wq.aZ (fg e 0 true false false false) rfl hS (by omega) λu H1 av hS1=> ?_
   try simp only[ab,az,List.length_map]
   refine Wq.aZ (eG ⟨2,e.s,0,0⟩ (by first | exact Cl hs | simp)) rfl hS1 (by omega) λu H2 nx2 hS2=> ?_;refine Wq.done hS2 ?_ (λ_=>by rw[dU,hk];rfl) (by omega);rw[e0,rH];generalize aV ⟨2,e.s,0,0⟩=y
   by_cases g:e.l.length=0
   . rw[hx0 g];simp only[g,decide_true];simp only[Bool.true_and,Bool.and_true,Bool.and_assoc,Bool.and_comm,Bool.and_left_comm]
   . simp[g]
 refine Wq.ite (λhk=> ?_) (λh3=> ?_)
 . have e0:bh e=(bR e (-1) true false false false&&(ba e.l&&(decide (e.l.length=0)&&aV ⟨3,e.s,0,0⟩))):=by
    rw[fS,hk];have:aV ⟨3,e.s,0,0⟩=fx 3 e.n e.s e.l.length e.p.length e.d:=by simp[fx,aU]
    rw[this];rfl
   have hx0:e.l.length=0->ba e.l=true:=λg=>by rw[List.eq_nil_of_length_eq_zero g];rw[ba]
   refine Wq.aZ (fg e 0 true false false false) rfl hS (by omega) λu H1 av hS1=> ?_
   try simp only[ab,az,List.length_map]
   refine Wq.aZ (eG ⟨3,e.s,0,0⟩ (by first | exact Cl hs | simp)) rfl hS1 (by omega) λu H2 nx2 hS2=> ?_;refine Wq.done hS2 ?_ (λ_=>by rw[dU,hk];rfl) (by omega);rw[e0,rH];generalize aV ⟨3,e.s,0,0⟩=y
   by_cases g:e.l.length=0
   . rw[hx0 g];simp only[g,decide_true];simp only[Bool.true_and,Bool.and_true,Bool.and_assoc,Bool.and_comm,Bool.and_left_comm]
   . simp[g]
 refine Wq.ite (λhk=> ?_) (λh4=> ?_)
 . have e0:bh e=(bR e (-1) true false false false&&(ba e.l&&(decide (e.l.length=0)&&aV ⟨4,e.s,0,0⟩))):=by
    rw[fS,hk];have:aV ⟨4,e.s,0,0⟩=fx 4 e.n e.s e.l.length e.p.length e.d:=by simp[fx,aU]
    rw[this];rfl
   have hx0:e.l.length=0->ba e.l=true:=λg=>by rw[List.eq_nil_of_length_eq_zero g];rw[ba]
   refine Wq.aZ (fg e 0 true false false false) rfl hS (by omega) λu H1 av hS1=> ?_
   try simp only[ab,az,List.length_map]
   refine Wq.aZ (eG ⟨4,e.s,0,0⟩ (by first | exact Cl hs | simp)) rfl hS1 (by omega) λu H2 nx2 hS2=> ?_;refine Wq.done hS2 ?_ (λ_=>by rw[dU,hk];rfl) (by omega);rw[e0,rH];generalize aV ⟨4,e.s,0,0⟩=y
   by_cases g:e.l.length=0
   . rw[hx0 g];simp only[g,decide_true];simp only[Bool.true_and,Bool.and_true,Bool.and_assoc,Bool.and_comm,Bool.and_left_comm]
   . simp[g]
 have L36:∀b:Bool,b=decide (e.k=5\/e.k=13)->dJ P pl X0 (.jump (xx (ptr bp) (aa e.v) (i64 e.k) b H (nx+1))) nx0 H0 (dW fr bp nx0 H0 l0 b0 (bh e) (dm e) (8*e.z-4)):=by
  intro b hb;refine Wq.jmp (Se ..) (λ_=>rfl) ?_;cases b with
  | true=>
    have hk2:=of_decide_eq_true hb.symm;obtain⟨sg,hsg⟩:∃sg,sg=if e.k=5 then([44]:List UInt8)else[59]:=⟨_,rfl⟩;have e0:bh e=(bR e (-1) false false false false&&(ba e.l&&(decide (1<e.l.length)||(decide (e.l.length=0)&&decide (e.k=5))))):=by
     rw[fS];rcases hk2 with hk2 | hk2
     . rw[hk2];show(bR e (-1) false false false false&&(ba e.l && !decide (e.l.length=1)))=_;have:(!decide (e.l.length=1))=(decide (1<e.l.length)||(decide (e.l.length=0)&&decide ((5:Int)=5))):=by
        rcases Nat.lt_trichotomy e.l.length 1 with g | g | g
        . have:e.l.length=0:=by omega
          rw[this];rfl
        . rw[g];rfl
        . have:e.l.length≠1:=by omega
          simp[this,g]
       rw[this]
     . rw[hk2];show(bR e (-1) false false false false&&(ba e.l&&decide (1<e.l.length)))=_;simp
    have e1:dm e=cN [40]::(bj (bN sg ay) true e.l++[cN [41]]):=by
     rw[dU,hsg];rcases hk2 with hk2 | hk2
     . rw[hk2];show cN [40]::(cU [44] ((e.l.map λe=>(e.k,iE e)).map d_)++[cN [41]])=_;rw[gW];rfl
     . rw[hk2];show cN [40]::(cU [59] ((e.l.map λe=>(e.k,iE e)).map d_)++[cN [41]])=_;rw[gW];rfl
    have L40:∀(r:Bool) H2 nx2,r=(bR e (-1) false false false false&&(decide (1<e.l.length)||(decide (e.l.length=0)&&decide (e.k=5))))->St fr bp nx0 H0 l0 b0 r [] 0 H2 nx2->dJ P pl X0 (.jump (p_ (ptr bp) (aa e.v) H2 nx2)) nx0 H0 (dW fr bp nx0 H0 l0 b0 (bh e) (dm e) (8*e.z-4)):=by
     intro r H2 nx2 hr hS2;refine Wq.jmp (Sf ..) (λ_=>rfl) ?_;refine Wq.lK [40] hS2 (by omega) λu H3 nx3 hS3=> ?_
     try simp only[ab,az,List.length_map]
     refine Wq.AO Fm E3 rfl rfl (by kernel_rfl) hS3 λm H4 nx4 hm4 hS4=> ?_;have hl:cg P H4 131 (some m) (some (i64 e.k)) false=some (au sg):=by
      rw[hm4,hsg];rcases hk2 with hk2 | hk2
      . rw[hk2];kernel_rfl
      . rw[hk2];kernel_rfl
     simp only[ab,az,List.length_map,hl];refine Wq.aZ (yK e.l sg hl1 hE) rfl hS4 (by omega) λu H5 nx5 hS5=> ?_;refine Wq.lK [41] hS5 (by omega) λu H6 nx6 hS6=> ?_;refine Wq.done hS6 ?_ (λ_=>by rw[e1];simp) (by omega);rw[e0,hr];simp only[Bool.true_and,Bool.and_true,Bool.and_assoc,Bool.and_comm,Bool.and_left_comm]
    have hAll:∀(c:Bool) H2 nx2,c=(decide (1<e.l.length)||(decide (e.l.length=0)&&decide (e.k=5)))->St fr bp nx0 H0 l0 b0 (true&&bR e (-1) false false false false) ([]++[]) (0+0) H2 nx2->dJ P pl X0 (bQ (.call 49 [ptr bp,.bool c] false none H2 nx2) (λx H' nx'=> .jump (p_ (ptr bp) (aa e.v) H' nx')) gg) nx0 H0 (dW fr bp nx0 H0 l0 b0 (bh e) (dm e) (8*e.z-4)):=by
     intro c H2 nx2 hc hS2;refine Wq.aZ (cf c) rfl hS2 (by omega) λu H3 nx3 hS3=> ?_;exact L40 _ _ _ (by rw[hc];simp) (hS3.mono rfl (λ_=>by simp) (by omega))
    simp only[ab,az,List.length_map,jI,jH];refine Wq.aZ (fg e (-1) false false false false) rfl hS (by omega) λu H1 av hS1=> ?_;refine Wq.ite (λg=>hAll _ _ _ (by simp[g]) hS1) (λg=> ?_);refine Wq.ite (λg2=> ?_) (λg2=>hAll _ _ _ (by simp[g,g2]) hS1);exact hAll _ _ _ (by simp[g2]) hS1
  | false=>
    have hk2:=of_decide_eq_false hb.symm;simp only[ab,az,List.length_map];refine Wq.ite (λhk=> ?_) (λh10=> ?_)
    . refine Wq.aZ (Oc e hk h' hE hE2 hD) rfl hS (by omega) λu H2 nx2 hS2=> ?_;exact Wq.done hS2 (by simp) (λ_=>by simp) (by omega)
    refine Wq.ite (λhk=> ?_) (λh14=> ?_)
    . have e0:bh e=(bR e (-1) true false false false&&(ba e.l&&(decide (e.l.length=2)&&il.contains e.s))):=by rw[fS,hk];rfl
      refine Wq.aZ (fg e 2 true false false false) rfl hS (by omega) λu H1 av hS1=> ?_;rw[Fp]at hS1
      try simp only[ab,az,List.length_map]
      refine Wq.B8 (Tx e.s) hS1 λH2 nx2 hS2=> ?_
      try simp only[ab,az,List.length_map]
      refine Wq.aZ (cf _) rfl hS2 (by omega) λu H3 nx3 hS3=> ?_;simp only[ab,gb,hS3.bad];refine Wq.bK (λhb=> ?_) (λhb=> ?_)
      . have hg:b0=false/\((decide (e.l.length=2)&&bR e (-1) true false false false)&&il.contains e.s)=true:=by
         revert hb
         rw[Bool.true_and];cases b0<;>cases((decide (e.l.length=2)&&bR e (-1) true false false false)&&il.contains e.s)<;>simp
        obtain⟨hb0,hg⟩:=hg;rw[Bool.and_eq_true,Bool.and_eq_true,decide_eq_true_eq]at hg;obtain⟨x,y,hl⟩:∃x y,e.l=[x,y]:=Yx hg.1.1;have e1:dm e=ay x++tI e.s::ay y:=by rw[dU,hk,hl];rfl
        have zl:bO e.l=x.z+(y.z+0):=by rw[hl];rfl
        have z1:=x.bJ;have z2:=y.bJ;have hx0:(e.l.map aq.v)[0]? = some x.v:=by rw[hl];rfl
        have hx:=i_ hx0 .i64;rw[show((0:Nat):Int)=0 from rfl]at hx;have hy0:(e.l.map aq.v)[1]? = some y.v:=by rw[hl];rfl
        have hy:=i_ hy0 .i64;rw[show((1:Nat):Int)=1 from rfl]at hy;obtain⟨a,r,hsr⟩:∃a r,e.s=a::r:=by
         match hs:e.s with
         | []=>rw[hs]at hg;exact absurd hg.2 (by decide)
         | a::r=>exact⟨a,r,rfl⟩
        have hop:=Kr a r;rw[<- hsr]at hop;simp only[ab,az,List.length_map,hx,hy];refine Wq.aZ (hE x (by rw[hl];simp)) rfl hS3 (by omega) λu H4 nx4 hS4=> ?_;refine Wq.nr hop hS4 λH5 nx5 hS5=> ?_;refine Wq.tok (tI e.s) hS5 (by omega) λu H6 nx6 hS6=> ?_
        try simp only[ab,az,List.length_map,hy]
        refine Wq.aZ (hE y (by rw[hl];simp)) rfl hS6 (by omega) λu H7 nx7 hS7=> ?_;refine Wq.done hS7 ?_ (λ_=>by rw[e1];simp) (by omega);rw[e0,hg.1.2,hg.2];simp only[hg.1.1,decide_true,hl,ba];simp only[Bool.true_and,Bool.and_true,Bool.and_assoc,Bool.and_comm,Bool.and_left_comm]
      . refine Wq.skip hS3 (by rw[Bool.not_eq_false']at hb;exact hb) (λ_ g=> ?_) (by omega);rw[e0]
        revert g
        cases decide (e.l.length=2)<;>cases bR e (-1) true false false false<;>cases il.contains e.s<;>simp
    refine Wq.ite (λhk=> ?_) (λh15=> ?_)
    . have e0:bh e=(bR e (-1) true false false false&&(ba e.l&&(decide (e.l.length=1)&&cX.contains e.s))):=by rw[fS,hk];rfl
      refine Wq.aZ (fg e 1 true false false false) rfl hS (by omega) λu H1 av hS1=> ?_;rw[yJ]at hS1
      try simp only[ab,az,List.length_map,B9]
      try rw[B9,ax]
      refine Wq.B8 (E8 e.s) hS1 λH2 nx2 hS2=> ?_
      try simp only[ab,az,List.length_map]
      refine Wq.aZ (cf _) rfl hS2 (by omega) λu H3 nx3 hS3=> ?_;simp only[ab,gb,hS3.bad];refine Wq.bK (λhb=> ?_) (λhb=> ?_)
      . have hg:b0=false/\((decide (e.l.length=1)&&bR e (-1) true false false false)&&cX.contains e.s)=true:=by
         revert hb
         rw[Bool.true_and];cases b0<;>cases((decide (e.l.length=1)&&bR e (-1) true false false false)&&cX.contains e.s)<;>simp
        obtain⟨hb0,hg⟩:=hg;rw[Bool.and_eq_true,Bool.and_eq_true,decide_eq_true_eq]at hg;obtain⟨x,hl⟩:∃x,e.l=[x]:=List.length_eq_one_iff.1 hg.1.1;have e1:dm e=tI e.s::ay x:=by rw[dU,hk,hl];rfl
        have zl:bO e.l=x.z+0:=by rw[hl];rfl
        have z1:=x.bJ;have hx0:(e.l.map aq.v)[0]? = some x.v:=by rw[hl];rfl
        have hx:=i_ hx0 .i64;rw[show((0:Nat):Int)=0 from rfl]at hx;obtain⟨a,r,hsr⟩:∃a r,e.s=a::r:=by
         match hs:e.s with
         | []=>rw[hs]at hg;exact absurd hg.2 (by decide)
         | a::r=>exact⟨a,r,rfl⟩
        have hop:=Kr a r;rw[<- hsr]at hop;simp only[ab,az,List.length_map,hx];refine Wq.nr hop hS3 λH5 nx5 hS5=> ?_;refine Wq.tok (tI e.s) hS5 (by omega) λu H6 nx6 hS6=> ?_
        try simp only[ab,az,List.length_map,hx]
        refine Wq.aZ (hE x (by rw[hl];simp)) rfl hS6 (by omega) λu H7 nx7 hS7=> ?_;refine Wq.done hS7 ?_ (λ_=>by rw[e1];simp) (by omega);rw[e0,hg.1.2,hg.2];simp only[hg.1.1,decide_true,hl,ba];simp only[Bool.true_and,Bool.and_true,Bool.and_assoc,Bool.and_comm,Bool.and_left_comm]
      . refine Wq.skip hS3 (by rw[Bool.not_eq_false']at hb;exact hb) (λ_ g=> ?_) (by omega);rw[e0]
        revert g
        cases decide (e.l.length=1)<;>cases bR e (-1) true false false false<;>cases cX.contains e.s<;>simp
    refine Wq.ite (λhk=> ?_) (λh6=> ?_)
    . have e0:bh e=(bR e (-1) false false false false&&(ba e.l&&decide (e.l.length=2))):=by rw[fS,hk];rfl
      have e1:dm e=bj (λ_=>ay) true e.l:=by
       rw[dU,hk];show((e.l.map λe=>(e.k,iE e)).map d_).flatten=_;rw[List.map_map,eI];rfl
      refine Wq.aZ (fg e 2 false false false false) rfl hS (by omega) λu H1 av hS1=> ?_;rw[Fp]at hS1
      try simp only[ab,az,List.length_map]
      refine Wq.kx e.l bh (λ_=>ay) (λp=>8*p.z-1) (λi H nx=> .jump (xy (ptr bp) (eB e.l) (i64 (e.l.length:Int)) (i64 (i:Int)) H nx)) hS1 (by omega) (λH1 av hS1=> ?_) (λi a H1 av ok' ts' n' hg hlt hb hS1 ih'=> ?_)
      . refine Wq.jmp (Jo ..) (λ_=>rfl) ?_;simp only[ab,az,List.length_map,aA];refine Wq.done hS1 ?_ (λ_=>by rw[e1];simp) (by omega);rw[e0,jn];simp only[Bool.true_and,Bool.and_true,Bool.and_assoc,Bool.and_comm,Bool.and_left_comm]
      . have hx:(e.l.map aq.v)[i]? = some a.v:=by simp[hg]
        have hm:=List.mem_of_getElem? hg;have hz:=a.bJ;refine Wq.jmp (Jo ..) (λ_=>rfl) ?_;simp only[ab,az,List.length_map,aE hlt,i_ hx];refine Wq.fi bI cj rfl (M1 _) (M3 _) hS1 λH2 nx2 hS2=> ?_;refine Wq.aZ (hE a hm) rfl hS2 (by omega) λu H4 nx4 hS4=> ?_;simp only[ab,ao (show i<9223372036854775807 by have:=cM hl1;omega)];exact ih' _ _ (hS4.mono rfl (λ_=>by simp) (by omega))
    . refine Wq.aZ (Od e (by omega) h' hE) rfl hS (by omega) λu H2 nx2 hS2=> ?_;exact Wq.done hS2 (by simp) (λ_=>by simp) (by omega)
 refine Wq.ite (λg=>L36 _ (by simp[g])) (λg=> ?_);exact L36 _ (by simp[g])
end
section
variable {nx0:Nat}{H0:T OB}
variable {fr:Nat->List Value->TypeId->Prop}{bp:Nat}{l0:List Tok}{b0:Bool}{ok:Bool}{ts:List Tok}{n nx:Nat}{H:T OB}{R:Value->T OB->Nat->Prop}
def Co (p:aB):Bool:=decide (p.k=0)&&(decide (p.s=[])&&(decide (p.n=0)&&decide (p.l.length=0)))
def Cp (e:aq):Bool:=decide (e.k=0)&&(decide (e.s=[])&&(decide (e.n=0)&&(decide (e.l.length=0)&&(decide (e.p.length=0)&&decide (e.d.length=0)))))
def AQ (x:Data):Bool:=decide (x.s=[])&&(decide (x.vars.length=0)&&decide (x.cons.length=0))
def K6 (c:cS):Bool:=decide (c.s=[])&&decide (c.arg.length=0)
def lG (d:aG)(a b c x y:Bool):Bool:=(!a||Co d.p)&&((!b||Cp d.e)&&((!c||decide (d.f.length=0))&&((!x||AQ d.x)&&(!y||K6 d.c))))
theorem K7 (p:aB):Co p=true↔Tq=p:=by
 obtain⟨k,n,s,l⟩:=p;show(decide (k=0)&&(decide (s=[])&&(decide (n=0)&&decide (l.length=0))))=true↔aB.mk 0 0 [] []=aB.mk k n s l;rw[aB.mk.injEq];simp only[Bool.and_eq_true,decide_eq_true_eq,List.length_eq_zero_iff];exact⟨λ⟨a,b,c,d⟩=>⟨a.symm,c.symm,b.symm,d.symm⟩,λ⟨a,b,c,d⟩=>⟨a.symm,c.symm,b.symm,d.symm⟩⟩
theorem K8 (p:aq):Cp p=true↔Tr=p:=by
 obtain⟨k,n,s,l,a,b⟩:=p;show(decide (k=0)&&(decide (s=[])&&(decide (n=0)&&(decide (l.length=0)&&(decide (a.length=0)&&decide (b.length=0))))))=true↔aq.mk 0 0 [] [] [] []=aq.mk k n s l a b;rw[aq.mk.injEq];simp only[Bool.and_eq_true,decide_eq_true_eq,List.length_eq_zero_iff];exact⟨λ⟨a,b,c,d,e,f⟩=>⟨a.symm,c.symm,b.symm,d.symm,e.symm,f.symm⟩,λ⟨a,b,c,d,e,f⟩=>⟨a.symm,c.symm,b.symm,d.symm,e.symm,f.symm⟩⟩
theorem GX (p:Data):AQ p=true↔Kj=p:=by
 obtain⟨k,n,s⟩:=p;show(decide (n=[])&&(decide (k.length=0)&&decide (s.length=0)))=true↔Data.mk [] [] []=Data.mk k n s;rw[Data.mk.injEq];simp only[Bool.and_eq_true,decide_eq_true_eq,List.length_eq_zero_iff];exact⟨λ⟨a,b,c⟩=>⟨b.symm,a.symm,c.symm⟩,λ⟨a,b,c⟩=>⟨b.symm,a.symm,c.symm⟩⟩
theorem K9 (p:cS):K6 p=true↔Ts=p:=by
 obtain⟨k,n⟩:=p;show(decide (k=[])&&decide (n.length=0))=true↔cS.mk [] []=cS.mk k n;rw[cS.mk.injEq];simp only[Bool.and_eq_true,decide_eq_true_eq,List.length_eq_zero_iff];exact⟨λ⟨a,b⟩=>⟨a.symm,b.symm⟩,λ⟨a,b⟩=>⟨a.symm,b.symm⟩⟩
theorem GZ (d:aG):cP (dL d) d=lG d (!decide (d.k=1)) (!decide (d.k=1\/d.k=5)) (!decide (d.k=2)) (!decide (d.k=3)) (!decide (d.k=4)):=by
 have A:∀{α:Type} (c:Prop) [Decidable c] (x y:α),((if c then x else y)=x)↔(c\/y=x):=by
  intro α c _ x y
  by_cases h:c<;>simp[h]
 have C:∀{α:Type} (l:List α),([]=l)↔l.length=0:=by
  intro α l;cases l<;>simp
 obtain⟨k,p,e,f,x,c⟩:=d;rw[Bool.eq_iff_iff,gd];show(aG.mk k (if k=1 then p else Tq) (if k=1\/k=5 then e else Tr) (if k=2 then f else[]) (if k=3 then x else Kj) (if k=4 then c else Ts)=aG.mk k p e f x c)↔((!(!decide (k=1))||Co p)&&((!(!decide (k=1\/k=5))||Cp e)&&((!(!decide (k=2))||decide (f.length=0))&&((!(!decide (k=3))||AQ x)&&(!(!decide (k=4))||K6 c)))))=true;rw[aG.mk.injEq,A,A,A,A,A,C f,<- K7,<- K8,<- GX,<- K9];simp only[Bool.not_not,Bool.and_eq_true,Bool.or_eq_true,decide_eq_true_eq,true_and]
theorem WX {H:T OB}{b:Nat}{e:aq}(h:cA H b [i64 e.k,i64 e.n,au e.s,eB e.l,bL e.p,ca e.d] 44):ai P H 3 (some (.pointer (some ⟨b,0,none⟩)))=some (i64 e.k)/\ai P H 2 (some (.pointer (some ⟨b,1,none⟩)))=some (i64 e.n)/\ai P H 9 (some (.pointer (some ⟨b,2,none⟩)))=some (au e.s)/\ai P H 42 (some (.pointer (some ⟨b,3,none⟩)))=some (eB e.l)/\ai P H 39 (some (.pointer (some ⟨b,4,none⟩)))=some (bL e.p)/\ai P H 23 (some (.pointer (some ⟨b,5,none⟩)))=some (ca e.d):=
 ⟨ah h oR rfl,ah h PF rfl,ah h nm rfl,ah h jT rfl,ah h iB rfl,ah h ma rfl⟩
theorem QH {a b:Nat}(h1:a<dQ)(h2:b<dQ):IntKind.i64.wrap ((a:Int)+(b:Int))=((a+b:Nat):Int):=by
 have:=cM h1;have:=cM h2;unfold dQ at h1 h2;rw[bS (by omega)];omega
theorem Zc (a:Nat):decide (0<(a:Int))= !decide (a=0):=by
 rw[jJ];cases a<;>simp
theorem WY (a b:Nat):(!decide (a+b=0))= !(decide (a=0)&&decide (b=0)):=by
 cases a<;>cases b<;>simp
theorem WZ (a b c:Nat):(!decide (a+b+c=0))= !(decide (a=0)&&(decide (b=0)&&decide (c=0))):=by
 cases a<;>cases b<;>cases c<;>simp
theorem tP (d:aG)(h:d.ok)(a b c x y:Bool):P0 50 [d.v,.bool a,.bool b,.bool c,.bool x,.bool y] (.bool (lG d a b c x y)):=Pure.of rfl λH nx=>by
 rw[aG.bm]at h;obtain⟨hp,he,⟨hf,_⟩,hx,hc⟩:=h;have he':=(aq.bm d.e).1 he;have hl1:=he'.2.2.1.1;have hl2:=he'.2.2.2.1.1;have hl3:=he'.2.2.2.2.1;have hx1:=hx.1.1;have hx2:=hx.2.2.1;rw[ZS];refine Wq.iZ (.refl _ _) λhA=> ?_;simp only[ab,az,List.length_map];rw[aB.aW,aq.aW];refine Wq.alloc cR hA λH1 hb1 k1 hA1=> ?_;refine Wq.alloc bI hA1 λH2 hb2 k2 hA2=> ?_;have hb1':=k2 _ _ _ (by omega) hb1;refine Wq.store hb1' dj (by simp) rfl rfl hA2 (by omega) λH3 hb3 k3 hA3=> ?_;have hb2':=k3 _ _ _ (by omega) hb2;refine Wq.store hb2' cj (by simp) rfl rfl hA3 (by omega) λH4 hb4 k4 hA4=> ?_;have hp4:cA H4 (nx+1) d.p.cs 41:=by
  rw[aB.fe];exact k4 _ _ _ (by omega) hb3
 have hPB:=qO (p:=d.p) hp4;have hEB:=WX (e:=d.e) hb4;have L8:∀r:Bool,r= !((!a||Co d.p)&&(!b||Cp d.e))->Wq P pl X0 (.jump (iG c x y (aa d.v) r H4 (nx+1+1+1))) nx H (.bool (lG d a b c x y)):=by
  intro r hr;refine Wq.jmp (VB ..) (λ_=>rfl) ?_;cases r with
  | true=>
    refine Wq.gF ?_ hA4;unfold lG
    revert hr
    generalize (!a||Co d.p)=u1;generalize (!b||Cp d.e)=u2;cases u1<;>cases u2<;>simp
  | false=>
    have e0:lG d a b c x y=((!c||decide (d.f.length=0))&&((!x||AQ d.x)&&(!y||K6 d.c))):=by
     unfold lG
     revert hr
     generalize (!a||Co d.p)=u1;generalize (!b||Cp d.e)=u2;cases u1<;>cases u2<;>simp
    rw[e0];unfold AQ K6;generalize hs1:decide (d.x.s=[])=s1;generalize hs2:decide (d.x.vars.length=0)=s2;generalize hs3:decide (d.x.cons.length=0)=s3;generalize hs4:decide (d.c.s=[])=s4;generalize hs5:decide (d.c.arg.length=0)=s5;generalize hs6:decide (d.f.length=0)=s6;simp only[ab,az,List.length_map,dz,QH hx1 hx2,Zc,WY,hs1,hs2,hs3,hs4,hs5,hs6];cases c<;>cases x<;>cases y<;>cases s6
    all_goals try (simp only[ab];exact Wq.gF rfl hA4)
    all_goals cases s1
    all_goals try (simp only[ab];exact Wq.gF rfl hA4)
    all_goals cases s2<;>cases s3
    all_goals try (simp only[ab,Bool.and_false,Bool.and_true];exact Wq.gF rfl hA4)
    all_goals cases s4
    all_goals try (simp only[ab,Bool.and_false,Bool.and_true];exact Wq.gF rfl hA4)
    all_goals cases s5<;>(simp only[ab,Bool.and_false,Bool.and_true];exact Wq.gF rfl hA4)
 have hw:IntKind.i64.wrap (((d.e.l.length+d.e.p.length:Nat):Int)+(d.e.d.length:Int))=((d.e.l.length+d.e.p.length+d.e.d.length:Nat):Int):=by
  unfold dQ at hl1 hl2 hl3;rw[bS (by omega)];omega
 unfold Co Cp at L8;simp only[ab,az,List.length_map,rz,jE,mM,oO,wi,wj,wk,wm,wo,wq,hPB.1,hPB.2.1,hPB.2.2.1,hPB.2.2.2.1,hEB.1,hEB.2.1,hEB.2.2.1,hEB.2.2.2.1,hEB.2.2.2.2.1,hEB.2.2.2.2.2,dz,QH hl1 hl2,hw,Zc,WZ];cases a with
 | false=>
   cases b with
   | false=>simp only[ab];exact L8 _ rfl
   | true=>
     simp only[ab];refine Wq.gj (λg1=>L8 _ (by simp[g1])) (λg1=> ?_);refine Wq.gj (λg2=>L8 _ (by simp[g2])) (λg2=> ?_);refine Wq.gj (λg3=>L8 _ (by simp[g3])) (λg3=> ?_);refine L8 _ ?_;simp only[g1,g2,g3,decide_true,Bool.true_and,Bool.not_true,Bool.false_or,Bool.not_false,Bool.true_or]
 | true=>
   simp only[ab];refine Wq.gj (λg1=>L8 _ (by simp[g1])) (λg1=> ?_);refine Wq.gj (λg2=>L8 _ (by simp[g2])) (λg2=> ?_);refine Wq.gj (λg3=>L8 _ (by simp[g3])) (λg3=> ?_);refine Wq.gj (λg4=>L8 _ (by simp[g4])) (λg4=> ?_);cases b with
   | false=>
     simp only[ab];refine L8 _ ?_;simp only[g1,g2,g3,g4,decide_true,Bool.true_and,Bool.not_true,Bool.false_or,Bool.not_false,Bool.true_or]
   | true=>
     simp only[ab];refine Wq.gj (λg5=>L8 _ (by simp[g5])) (λg5=> ?_);refine Wq.gj (λg6=>L8 _ (by simp[g6])) (λg6=> ?_);refine Wq.gj (λg7=>L8 _ (by simp[g7])) (λg7=> ?_);refine L8 _ ?_;simp only[g1,g2,g3,g4,g5,g6,g7,decide_true,Bool.true_and,Bool.not_true,Bool.false_or,Bool.not_false,Bool.true_or]
end
section
variable {nx0:Nat}{H0:T OB}
variable {fr:Nat->List Value->TypeId->Prop}{bp:Nat}{l0:List Tok}{b0:Bool}{ok:Bool}{ts:List Tok}{n nx:Nat}{H:T OB}{R:Value->T OB->Nat->Prop}
theorem K_ (l:List Fn):dh (λp:Fn=>8*p.z) l=8*jf l:=by
 induction l with
 | nil=>rfl
 | cons a l ih=>rw[dh,ih,jf];omega
theorem Oe (d:aG)(h:d.ok)(hE:gH 53 [d.e.v] (bh d.e) (dm d.e) (8*d.e.z-4))(hF:∀f,f∈d.f->gH 53 [f.b.v] (bh f.b) (dm f.b) (8*f.b.z-4)):gH 30 [d.v] (eo d) (eM d) (8*d.z-2):=λfr bp nx0 H0 l0 b0 H nx hn hS=>by
 have h':=h;rw[aG.bm]at h;obtain⟨hp,he,⟨hf1,hf2⟩,hx,hc⟩:=h;have hz:=d.fY;have z1:=d.p.bJ;have z2:=d.e.bJ;have z3:=d.c.bJ;have e1:=o0 d;have e0:=iN d;rw[GZ]at e0;rw[Zz];refine Wq.qf hS λhS=> ?_;simp only[ab,az,List.length_map];refine Wq.ite (λhk=> ?_) (λh1=> ?_)
 . have e2:eo d=(lG d false false true true true&&(bx d.p&&bh d.e)):=by rw[e0,hk];rfl
   refine Wq.nr (tP d h' false false true true true) hS λH1 av hS1=> ?_
   try simp only[ab,az,List.length_map]
   refine Wq.aZ (cf _) rfl hS1 (by omega) λu H2 nx2 hS2=> ?_;refine Wq.key [118,97,108] hS2 (by omega) λu H3 nx3 hS3=> ?_
   try simp only[ab,az,List.length_map]
   refine Wq.aZ (N4 d.p hp) rfl hS3 (by omega) λu H4 nx4 hS4=> ?_;refine Wq.lK [61] hS4 (by omega) λu H5 nx5 hS5=> ?_
   try simp only[ab,az,List.length_map]
   refine Wq.aZ hE rfl hS5 (by omega) λu H6 nx6 hS6=> ?_;refine Wq.done hS6 (by rw[e2];simp only[Bool.true_and,Bool.and_true,Bool.and_assoc,Bool.and_comm,Bool.and_left_comm]) (λ_=>by rw[e1,if_pos hk];simp) (by omega)
 rw[if_neg h1]at e1;refine Wq.ite (λhk=> ?_) (λh2=> ?_)
 . have e2:eo d=(qM d.f&&(decide (0<d.f.length)&&lG d true true false true true)):=by rw[e0,hk];rfl
   rw[if_pos hk]at e1;have hsum:=K_ d.f;have L24:∀(c:Bool) H1 av,c=(lG d true true false true true&&decide (0<d.f.length))->St fr bp nx0 H0 l0 b0 true [] 0 H1 av->dJ P pl X0 (bQ (.call 49 [ptr bp,.bool c] false none H1 av) (λx H' nx'=> .jump (xh (ptr bp) (aa d.v) H' nx')) gg) nx0 H0 (dW fr bp nx0 H0 l0 b0 (eo d) (eM d) (8*d.z-2)):=by
    intro c H1 av hc hS1;refine Wq.aZ (cf c) rfl hS1 (by omega) λu H2 nx2 hS2=> ?_;refine Wq.jmp (RZ ..) (λ_=>rfl) ?_;simp only[ab,az,List.length_map];refine Wq.kx d.f E4 (λb f=>eg (if b=true then[102,117,110]else[97,110,100])::QG f) (λf=>8*f.z) (λi H nx=> .jump (xi (ptr bp) (tB d.f) (i64 (d.f.length:Int)) (i64 (i:Int)) H nx)) hS2 (by omega) (λH1 av hS1=> ?_) (λi a H1 av ok' ts' n' hg hlt hb hS1 ih'=> ?_)
    . refine Wq.jmp (Jh ..) (λ_=>rfl) ?_;simp only[ab,az,List.length_map,aA];refine Wq.done hS1 ?_ (λ_=>by rw[e1,yI];simp) (by omega);rw[e2,hc,mR];simp only[Bool.true_and,Bool.and_true,Bool.and_assoc,Bool.and_comm,Bool.and_left_comm]
    . have hx:(d.f.map Fn.v)[i]? = some a.v:=by simp[hg]
      have hm:=List.mem_of_getElem? hg;have hao:=(Fn.bm a).1 (hf2 a hm);have hz:=a.fY;have zb:=a.b.bJ;refine Wq.jmp (Jh ..) (λ_=>rfl) ?_;simp only[ab,az,List.length_map,aE hlt,Ea hx];refine Wq.fi hU mc rfl (XL _) (XM _) hS1 λH2 nx2 hS2=> ?_;refine Wq.AO yH K2 rfl rfl (by kernel_rfl) hS2 λm H3 nx3 hm3 hS3=> ?_;have hl:∀b:Bool,cg P H3 113 (some m) (some (.bool b)) false=some (au (if b=true then[102,117,110]else[97,110,100])):=by
       intro b;rw[hm3];cases b<;>kernel_rfl
      simp only[ab,az,List.length_map,jH,hl,gf,jJ];refine Wq.key _ hS3 (by omega) λu H4 nx4 hS4=> ?_
      try simp only[ab,az,List.length_map,gf,jJ]
      refine Wq.aZ (eG ⟨3,a.s,0,0⟩ (Cl hao.1)) rfl hS4 (by omega) λu H5 nx5 hS5=> ?_
      try simp only[ab,az,List.length_map,jJ]
      refine Wq.aZ (cf _) rfl hS5 (by omega) λu H6 nx6 hS6=> ?_
      try simp only[ab,az,List.length_map]
      have hsp:=tM a.p;refine Wq.kx a.p bx (λ_=>aS) (λp=>8*p.z-2) (λk H nx=> .jump (xj (ptr bp) (aa a.v) (tB d.f) (i64 (d.f.length:Int)) (i64 (i:Int)) (bL a.p) (i64 (a.p.length:Int)) (i64 (k:Int)) H nx)) hS6 (by omega) (λH7 nx7 hS7=> ?_) (λk q H7 nx7 ok7 ts7 n7 hg7 hlt7 hb7 hS7 ih7=> ?_)
      . refine Wq.jmp (Ji ..) (λ_=>rfl) ?_;simp only[ab,az,List.length_map,aA];refine Wq.lK [61] hS7 (by omega) λu H8 nx8 hS8=> ?_
        try simp only[ab,az,List.length_map]
        refine Wq.aZ (hF a hm) rfl hS8 (by omega) λu H9 nx9 hS9=> ?_;simp only[ab,ao (show i<9223372036854775807 by have:=cM hf1;omega)];refine ih' _ _ (hS9.mono ?_ (λ_=> ?_) (by omega))
        . rw[tG,cJ];show(((ok'&&aV ⟨3,a.s,0,0⟩)&&decide (0<a.p.length))&&a.p.all bx&&bh a.b)=(ok'&&(aV ⟨3,a.s,0,0⟩&&(decide (0<a.p.length)&&(a.p.all bx&&bh a.b))));simp only[Bool.and_assoc]
        . rw[eI,Cn];simp
      . have hx7:(a.p.map aB.v)[k]? = some q.v:=by simp[hg7]
        have hm7:=List.mem_of_getElem? hg7;refine Wq.jmp (Ji ..) (λ_=>rfl) ?_;simp only[ab,az,List.length_map,aE hlt7,ke hx7];refine Wq.fi cR dj rfl (GB _) (GC _) hS7 λH8 nx8 hS8=> ?_;refine Wq.aZ (AN q (hao.2.1.2 q hm7)) rfl hS8 (by omega) λu H9 nx9 hS9=> ?_;simp only[ab,ao (show k<9223372036854775807 by have:=cM hao.2.1.1;omega)];exact ih7 _ _ hS9
   refine Wq.nr (tP d h' true true false true true) hS λH1 av hS1=> ?_;simp only[ab,az,List.length_map,jJ];refine Wq.bK (λg=> ?_) (λg=>L24 _ _ _ (by rw[g];rfl) hS1);exact L24 _ _ _ (by rw[g];rfl) hS1
 rw[if_neg h2]at e1;refine Wq.ite (λhk=> ?_) (λh3=> ?_)
 . have e2:eo d=(jY d.x.vars&&(jX d.x.cons&&(aU 3 d.x.s&&(decide (0<d.x.cons.length)&&lG d true true true false true)))):=by rw[e0,hk];rfl
   refine Wq.nr (tP d h' true true true false true) hS λH1 av hS1=> ?_
   try simp only[ab,az,List.length_map]
   refine Wq.aZ (cf _) rfl hS1 (by omega) λu H2 nx2 hS2=> ?_
   try simp only[ab,az,List.length_map]
   refine Wq.aZ (N9 d.x hx) rfl hS2 (by omega) λu H4 nx4 hS4=> ?_;refine Wq.done hS4 (by rw[e2];unfold iv;simp only[Bool.true_and,Bool.and_true,Bool.and_assoc,Bool.and_comm,Bool.and_left_comm]) (λ_=>by rw[e1,if_pos hk];simp) (by omega)
 rw[if_neg h3]at e1;refine Wq.ite (λhk=> ?_) (λh4=> ?_)
 . have e2:eo d=(jg d.c&&lG d true true true true false):=by rw[e0,hk];rfl
   refine Wq.nr (tP d h' true true true true false) hS λH1 av hS1=> ?_
   try simp only[ab,az,List.length_map]
   refine Wq.aZ (cf _) rfl hS1 (by omega) λu H2 nx2 hS2=> ?_;refine Wq.key [101,120,99,101,112,116,105,111,110] hS2 (by omega) λu H3 nx3 hS3=> ?_
   try simp only[ab,az,List.length_map]
   refine Wq.aZ (Fo d.c hc) rfl hS3 (by omega) λu H4 nx4 hS4=> ?_;refine Wq.done hS4 (by rw[e2];simp only[Bool.true_and,Bool.and_true,Bool.and_assoc,Bool.and_comm,Bool.and_left_comm]) (λ_=>by rw[e1,if_pos hk];simp) (by omega)
 rw[if_neg h4]at e1;refine Wq.ite (λhk=> ?_) (λh5=> ?_)
 . have e2:eo d=(lG d true false true true true&&bh d.e):=by rw[e0,hk];rfl
   refine Wq.nr (tP d h' true false true true true) hS λH1 av hS1=> ?_
   try simp only[ab,az,List.length_map]
   refine Wq.aZ (cf _) rfl hS1 (by omega) λu H2 nx2 hS2=> ?_
   try simp only[ab,az,List.length_map]
   refine Wq.aZ hE rfl hS2 (by omega) λu H4 nx4 hS4=> ?_;refine Wq.done hS4 (by rw[e2];simp only[Bool.true_and,Bool.and_true,Bool.and_assoc,Bool.and_comm,Bool.and_left_comm]) (λ_=>by rw[e1,if_pos hk];simp) (by omega)
 . have e2:eo d=false:=by rw[e0,if_neg h1,if_neg h5,if_neg h2,if_neg h3,if_neg h4]
   try simp only[ab,az,List.length_map]
   refine Wq.bad hS λH2 hS2=> ?_;exact Wq.done hS2 e2.symm (λq=>by rw[e2]at q;cases q) (by omega)
def Cq (e:aq):Prop:=gH 53 [e.v] (bh e) (dm e) (8*e.z-4)/\∀c,c∈e.l->gH 72 [c.v] (bh c) (ay c) (8*c.z-2)
theorem La:(∀e:aq,e.ok->Cq e)/\∀d:aG,d.ok->gH 30 [d.v] (eo d) (eM d) (8*d.z-2):=by
 have h1:∀t:aq,(∀c,c∈t.l->c.ok->Cq c)->(∀d,d∈t.d->d.ok->gH 30 [d.v] (eo d) (eM d) (8*d.z-2))->t.ok->Cq t:=by
  intro e h1 h2 he;have he':=(aq.bm e).1 he;have hE:∀c,c∈e.l->gH 72 [c.v] (bh c) (ay c) (8*c.z-2):=λc hc=>Oa c (h1 c hc (he'.2.2.1.2 c hc)).1;exact⟨K5 e he hE (λc hc=>(h1 c hc (he'.2.2.1.2 c hc)).2) (λd hd=>h2 d hd (he'.2.2.2.2.2 d hd)),hE⟩
 have h2:∀t:aG,(t.e.ok->Cq t.e)->(∀f,f∈t.f->f.b.ok->Cq f.b)->t.ok->gH 30 [t.v] (eo t) (eM t) (8*t.z-2):=by
  intro d h1 h2 hd;have hd':=(aG.bm d).1 hd;exact Oe d hd (h1 hd'.2.1).1 λf hf=>(h2 f hf ((Fn.bm f).1 (hd'.2.2.1.2 f hf)).2.2).1
 exact⟨λe=>aq.ind (p:=λe=>e.ok->Cq e) (q:=λd=>d.ok->gH 30 [d.v] (eo d) (eM d) (8*d.z-2)) h1 h2 e,λd=>aG.ind (p:=λe=>e.ok->Cq e) (q:=λd=>d.ok->gH 30 [d.v] (eo d) (eM d) (8*d.z-2)) h1 h2 d⟩
def eD (l:List aG):List Tok:=l.flatMap λd=>eM d++[cN [59]]
abbrev QI (nx0:Nat)(l:List aG):Value->T OB->Nat->Prop:=λv H nx=>∃toks sl,v= .tuple ⟨[sl,.bool (de l)]⟩/\TS nx0 H nx toks sl/\(de l=true->toks=eD l)/\toks.length<=8*ek l
theorem Yy (hT:dY nx0 H0)(l:List aG)(hl:l.length<dQ)(hok:∀d,d∈l->d.ok)(hz:ek l<=9000)(hA:Ag nx0 H0 nx H):dJ P pl X0 (aI P pl (.call 15 [ca l] false none H nx)) nx0 H0 (QI nx0 l):=by
 rw[Y7];refine Wq.box hA λH1 hb cc hA1=> ?_;have hn0:=hA.1;have hS:St (λ_ _ _=>False) nx nx0 H0 [] false true [] 0 H1 (nx+1):=⟨hT,hA1,[],false,⟨hn0,by omega,.slice none 0 0,hb,.inl ⟨rfl,rfl⟩,(λc o n u q=>by cases q),λx l e hx=>hx.elim⟩,.start [] false⟩;have hsum:=vA l;simp only[ab,az,List.length_map];refine Wq.kx l eo (λ_ d=>eM d++[cN [59]]) (λd=>8*d.z) (λi H2 nx2=> .jump (Ex (ptr nx) (ca l) (i64 (l.length:Int)) (i64 (i:Int)) H2 nx2)) hS (by simp only[List.length_nil];omega) (λH1 av hS1=> ?_) (λi a H1 av ok' ts' n' hg hlt hb hS1 ih'=> ?_)
 . obtain⟨_,hA2,l2,b2,⟨g1,g2,sl,g3,g4,g5,g6⟩,g7,g8,g9⟩:=hS1;refine Wq.jmp (I5 ..) (λ_=>rfl) ?_;simp only[ab,az,List.length_map,aA,oQ,gb,ah g3 wI (off:=0) (u:=sl) rfl,ah g3 IT (off:=1) (u:= .bool b2) rfl];have e1:(!b2)=de l:=by rw[g7,fB];simp
   rw[e1];refine Wq.uu hA2 ⟨l2,sl,rfl,g4,λq=> ?_,?_⟩
   . rw[g8 (by rw[<- Bool.not_inj_iff,e1,q];rfl),eI];rfl
   . simp only[List.length_nil]at g9;omega
 . have hx:(l.map aG.v)[i]? = some a.v:=by simp[hg]
   have hm:=List.mem_of_getElem? hg;have hz:=a.bJ;simp only[List.length_nil]at hb;refine Wq.jmp (I5 ..) (λ_=>rfl) ?_;simp only[ab,az,List.length_map,aE hlt,Ac hx];refine Wq.fi dx fJ rfl (M4 _) (M5 _) hS1 λH2 nx2 hS2=> ?_;refine Wq.aZ (La.2 a (hok a hm)) rfl hS2 (by simp only[List.length_nil];omega) λu H3 nx3 hS3=> ?_;refine Wq.lK [59] hS3 (by simp only[List.length_nil];omega) λu H4 nx4 hS4=> ?_;simp only[ab,ao (show i<9223372036854775807 by have:=cM hl;omega)];exact ih' _ _ (hS4.mono rfl (λ_=>by simp) (by omega))
end
def A4 (u:Nat)(s:List UInt8):List UInt8:=if u<10 then(48+u).toUInt8::s else A4 (u/10) ((48+u%10).toUInt8::s)
termination_by u
decreasing_by omega
theorem tQ (k:Nat):∀(u:Nat) (s:List UInt8),u<10^(k+1)->(A4 u s).length<=s.length+k+1/\s.length<(A4 u s).length:=by
 induction k with
 | zero=>
   intro u s h;rw[A4,if_pos (by simpa using h)];simp
 | succ k ih=>
   intro u s h;rw[A4];split
   . simp
   . have:=ih (u/10) ((48+u%10).toUInt8::s) (by rw[Nat.div_lt_iff_lt_mul (by omega)];rw[Nat.pow_succ]at h;omega);simp only[List.length_cons]at this ⊢;omega
def vB (n:Int):List UInt8:=if n<0 then 45::A4 n.natAbs []else A4 n.natAbs []
theorem Cr (n:Int)(h: -9223372036854775808<=n/\n<9223372036854775808):(vB n).length<=20:=by
 have:=(tQ 18 n.natAbs [] (by have:(10:Nat)^(18+1)=10000000000000000000:=by decide
                              omega)).1
 unfold vB;split<;>simp only[List.length_cons,List.length_nil]at this ⊢ <;> omega
theorem p19:(10:Nat)^(18+1)=10000000000000000000:=by decide
theorem XQ (a0:Int):Instr.fill (λi=>some (i*1,1)) (bH [.int .u8 0] (1*1)) [(0,.int .u8 a0)]=some ⟨[.int .u8 a0]⟩:=by kernel_rfl
theorem Yz (a0 a1:Int):Instr.fill (λi=>some (i*1,1)) (bH [.int .u8 0] (2*1)) [(0,.int .u8 a0),(1,.int .u8 a1)]=some ⟨[.int .u8 a0,.int .u8 a1]⟩:=by kernel_rfl
theorem fb4 (a0 a1 a2 a3:Int):Instr.fill (λi=>some (i*1,1)) (bH [.int .u8 0] (4*1)) [(0,.int .u8 a0),(1,.int .u8 a1),(2,.int .u8 a2),(3,.int .u8 a3)]=some ⟨[.int .u8 a0,.int .u8 a1,.int .u8 a2,.int .u8 a3]⟩:=by kernel_rfl
theorem Fs:P.underlying 117=some (.int .u64):=by kernel_rfl
theorem Ft:P.underlying 118=some (.array 20 5):=by kernel_rfl
theorem vC:eJ P 92 9=true:=by kernel_rfl
theorem Lb (H:T OB)(n:Int):dk P H 2 117 (some (i64 n))=some (.int .u64 (IntKind.u64.wrap n)):=jb Qm Fs
theorem AR (H:T OB)(n:Int):dk P H 117 5 (some (.int .u64 n))=some (.int .u8 (IntKind.u8.wrap n)):=jb Fs vn
theorem wrap_u64 (n:Int):IntKind.u64.wrap n=n%18446744073709551616:=by
 unfold IntKind.wrap;simp[IntKind.bits,IntKind.signed]
theorem yM {b off i:Nat}(h:i<20)(k:IntKind):bc P 118 (some (.pointer (some ⟨b,off,none⟩))) (some (.int k (i:Int)))=some (.pointer (some ⟨b,off+i,none⟩)):=by
 have:=Am (P:=P) (b:=b) (off:=off) Ft iC h k;rwa[Nat.mul_one]at this
theorem TU {H:T OB}{b off i:Nat}(h:i<20)(k:IntKind):bA P H 118 (some (.pointer (some ⟨b,off,none⟩))) (some (some (.int k (i:Int)))) (some none) (some none)=some (.slice (some ⟨b,off+i,none⟩) (20-i) (20-i)):=by
 have:=An (P:=P) (H:=H) (b:=b) (off:=off) Ft iC h (by omega) k;rwa[Nat.mul_one]at this
def Mg (r:List UInt8):List Value:=List.replicate (20-r.length) (.int .u8 0)++hZ r
theorem rI (d:UInt8)(r:List UInt8)(h:r.length<20):(Mg r).set (19-r.length) (.int .u8 d.toNat)=Mg (d::r):=by
 unfold Mg;rw[List.set_append_left _ _ (by simp;omega)];have e1:20-r.length=(19-r.length)+1:=by omega
 rw[e1,List.replicate_succ',List.set_append_right _ _ (by simp)];simp only[List.length_replicate,Nat.sub_self,List.set_cons_zero,List.length_cons];rw[show 20-(r.length+1)=19-r.length from by omega];simp[hZ]
theorem jo (r:List UInt8)(h:r.length<=20):(Mg r).length=20:=by simp[Mg];omega
theorem rJ {nx0:Nat}{H0:T OB}{nx b:Nat}{H:T OB}(r:List UInt8)(hr:0<r.length/\r.length<=20)(hA:Ag nx0 H0 nx H)(hb:cA H b (Mg r) 118):
 Wq P pl X0 (.jump (xn (.pointer (some ⟨b,0,none⟩)) (i64 ((20-r.length:Nat):Int)) H nx)) nx0 H0 (au r):=by
 refine Wq.jmp (R2 ..) (λ_=>rfl) ?_;rw[TU (by omega),MV,ax,MV,vh vC hb (by rw[jo r hr.2];omega) (r:=r),ax]
 . exact Wq.ret hA
 . unfold Mg;rw[Nat.zero_add,List.drop_left' (by simp)];rw[List.take_of_length_le (by simp;omega)]
def lK (n:Int):List UInt8:=if n<0 then[45]else[]
theorem TV (n:Int):vB n=lK n++A4 n.natAbs []:=by
 unfold vB lK;split<;>rfl
theorem Fu (d:Nat)(h:d<10):IntKind.u8.wrap (48+(d:Int))=(((48+d).toUInt8).toNat:Int):=by
 rw[wrap_u8];have:((48+d).toUInt8).toNat=48+d:=by simp;omega
 rw[this];omega
theorem Of {nx0:Nat}{H0:T OB}{b:Nat}(hbn:nx0<=b)(n:Int)(k:Nat):∀(u:Nat) (s:List UInt8) (H:T OB) (nx:Nat),u<10^(k+1)->s.length+k=18->Ag nx0 H0 nx H->cA H b (Mg s) 118->
 Wq P pl X0 (.jump (xm (i64 n) (.int .u64 (u:Int)) (.pointer (some ⟨b,0,none⟩)) (i64 ((20-s.length:Nat):Int)) H nx)) nx0 H0 (au (lK n++A4 u s)):=by
 induction k with
 | zero=>
   intro u s H nx hu hs hA hb;have hu:u<10:=by simpa using hu
   refine Wq.jmp (Jj ..) (λ_=>rfl) ?_;have e0:IntKind.i64.wrap (((20-s.length:Nat):Int)-1)=((19-s.length:Nat):Int):=by rw[bS (by omega)];omega
   have e1:(u:Int).tmod 10=((u%10:Nat):Int):=by rw[Int.tmod_eq_emod_of_nonneg (by omega)];omega
   have e2:IntKind.u64.wrap (48+((u%10:Nat):Int))=48+((u%10:Nat):Int):=by rw[wrap_u64];omega
   have e3:IntKind.u64.wrap ((u:Int).tdiv 10)=0:=by rw[Int.tdiv_eq_ediv_of_nonneg (by omega),wrap_u64];omega
   rw[A4,if_pos hu];simp only[ab,e0,u0 117 true .u64 u 10 (by omega),p6 117 true .u64 u 10 (by omega),e1,e2,AR,Fu _ (Nat.mod_lt u (by omega:0<10)),yM (show 19-s.length<20 by omega),e3,Nat.zero_add];refine Wq.put hb iC rfl rfl (by rw[jo s (by omega)];omega) (rI _ s (by omega)) hA hbn λH1 hb1 _ hA1=> ?_;rw[show u%10=u from Nat.mod_eq_of_lt hu]at hb1;refine Wq.ite (λhn=> ?_) (λhn=> ?_)
   . have e4:IntKind.i64.wrap (((19-s.length:Nat):Int)-1)=((18-s.length:Nat):Int):=by rw[bS (by omega)];omega
     simp only[ab,e4,yM (show 18-s.length<20 by omega),Nat.zero_add];have:=rI 45 ((48+u).toUInt8::s) (by simp;omega);rw[List.length_cons,show 19-(s.length+1)=18-s.length from by omega]at this;refine Wq.put hb1 iC rfl rfl (by rw[jo _ (by simp;omega)];omega) this hA1 hbn λH2 hb2 _ hA2=> ?_;have:=rJ _ (by simp;omega) hA2 hb2;simp only[List.length_cons,show 20-(s.length+1+1)=18-s.length from by omega]at this;unfold lK;rw[if_pos hn];exact this
   . have:=rJ _ (by simp;omega) hA1 hb1;simp only[List.length_cons,show 20-(s.length+1)=19-s.length from by omega]at this;unfold lK;rw[if_neg hn];exact this
 | succ k ih=>
   intro u s H nx hu hs hA hb;refine Wq.jmp (Jj ..) (λ_=>rfl) ?_;have hpow:(10:Nat)^(k+1+1)<=10^19:=Nat.pow_le_pow_right (by omega) (by omega);have h19:(10:Nat)^19=10000000000000000000:=by decide
   have hdiv:u/10<10^(k+1):=by rw[Nat.div_lt_iff_lt_mul (by omega)];rw[Nat.pow_succ]at hu;omega
   have e0:IntKind.i64.wrap (((20-s.length:Nat):Int)-1)=((19-s.length:Nat):Int):=by rw[bS (by omega)];omega
   have e1:(u:Int).tmod 10=((u%10:Nat):Int):=by rw[Int.tmod_eq_emod_of_nonneg (by omega)];omega
   have e2:IntKind.u64.wrap (48+((u%10:Nat):Int))=48+((u%10:Nat):Int):=by rw[wrap_u64];omega
   have e3:IntKind.u64.wrap ((u:Int).tdiv 10)=((u/10:Nat):Int):=by rw[Int.tdiv_eq_ediv_of_nonneg (by omega),wrap_u64];omega
   simp only[ab,e0,u0 117 true .u64 u 10 (by omega),p6 117 true .u64 u 10 (by omega),e1,e2,AR,Fu _ (Nat.mod_lt u (by omega:0<10)),yM (show 19-s.length<20 by omega),e3,Nat.zero_add];refine Wq.put hb iC rfl rfl (by rw[jo s (by omega)];omega) (rI _ s (by omega)) hA hbn λH1 hb1 _ hA1=> ?_;refine Wq.ite (λh0=> ?_) (λh0=> ?_)
   . have hu10:u<10:=by omega
     rw[A4,if_pos hu10];rw[show u%10=u from Nat.mod_eq_of_lt hu10]at hb1;refine Wq.ite (λhn=> ?_) (λhn=> ?_)
     . have e4:IntKind.i64.wrap (((19-s.length:Nat):Int)-1)=((18-s.length:Nat):Int):=by rw[bS (by omega)];omega
       simp only[ab,e4,yM (show 18-s.length<20 by omega),Nat.zero_add];have:=rI 45 ((48+u).toUInt8::s) (by simp;omega);rw[List.length_cons,show 19-(s.length+1)=18-s.length from by omega]at this;refine Wq.put hb1 iC rfl rfl (by rw[jo _ (by simp;omega)];omega) this hA1 hbn λH2 hb2 _ hA2=> ?_;have:=rJ _ (by simp;omega) hA2 hb2;simp only[List.length_cons,show 20-(s.length+1+1)=18-s.length from by omega]at this;unfold lK;rw[if_pos hn];exact this
     . have:=rJ _ (by simp;omega) hA1 hb1;simp only[List.length_cons,show 20-(s.length+1)=19-s.length from by omega]at this;unfold lK;rw[if_neg hn];exact this
   . have:=ih (u/10) ((48+u%10).toUInt8::s) H1 nx hdiv (by simp;omega) hA1 hb1;rw[A4,if_neg (by omega)];simp only[List.length_cons,show 20-(s.length+1)=19-s.length from by omega]at this;exact this
theorem W0 (n:Int)(h: -9223372036854775808<=n/\n<9223372036854775808):P0 33 [i64 n] (au (vB n)):=Pure.of rfl λH nx=>by
 rw[ZC];have L10:Wq P pl X0 (.jump (xk (i64 n) (.int .u64 ((n.natAbs:Nat):Int)) H nx)) nx H (au (vB n)):=by
  refine Wq.jmp (R0 ..) (λ_=>rfl) ?_;refine Wq.alloc IQ (.refl _ _) λH1 hb1 _ hA1=> ?_;rw[TV];exact Of (Nat.le_refl _) n 18 n.natAbs [] H1 _ (by rw[p19];omega) rfl hA1 hb1
 simp only[ab,Lb,yl];refine Wq.ite (λhn=> ?_) (λhn=> ?_)
 . have e:IntKind.u64.wrap (0-IntKind.u64.wrap n)=((n.natAbs:Nat):Int):=by rw[wrap_u64,wrap_u64];omega
   rw[e];exact L10
 . have e:IntKind.u64.wrap n=((n.natAbs:Nat):Int):=by rw[wrap_u64];omega
   rw[e];exact L10
def hex:List UInt8:=[48,49,50,51,52,53,54,55,56,57,65,66,67,68,69,70]
def hx (n:Nat):UInt8:=hex.getD n 0
def qc (c:UInt8):List UInt8:=if c.toNat=34\/c.toNat=92 then[92,c]else if c.toNat=10 then[92,110]else if c.toNat=9 then[92,116]else if c.toNat<32\/126<c.toNat then[92,120,hx (c.toNat/16),hx (c.toNat%16)]else[c]
def qs (l:List UInt8):List UInt8:=l.flatMap qc
theorem G0 (c:UInt8):(qc c).length<=4:=by unfold qc;split<;>(try split)<;>(try split)<;>(try split)<;>simp
theorem G5 (l:List UInt8):(qs l).length<=4*l.length:=by
 induction l with
 | nil=>simp[qs]
 | cons a l ih=>have:=G0 a;simp only[qs,List.flatMap_cons,List.length_append,List.length_cons]at ih ⊢;omega
def quote (l:List UInt8):List UInt8:=34::(qs l++[34])
theorem Og {n:Nat}(h:n<16):hex[n]? = some (hx n):=by
 unfold hx;rw[List.getD_eq_getElem?_getD,List.getElem?_eq_getElem (by simpa[hex]using h)];rfl
theorem Lc {n:Nat}(h:n<16)(k:IntKind):cC P 9 (some (.string ⟨⟨[48,49,50,51,52,53,54,55,56,57,65,66,67,68,69,70]⟩⟩)) (some (.int k (n:Int)))=some (.int .u8 ((hx n).toNat:Int)):=bD bl (Og h) k
theorem TW (H:T OB)(c:UInt8):cZ P H .shr 5 true (some (.int .u8 (c.toNat:Int))) (some (.int .u64 4))=some (.int .u8 ((c.toNat/16:Nat):Int)):=by
 have:=Gv (P:=P) (H:=H) 5 true .u8 .u64 (c.toNat:Int) 4 (by decide);rw[show((4:Nat):Int)=4 from rfl]at this;rw[this];congr 2;rw[Int.fdiv_eq_ediv_of_nonneg _ (by omega)];rw[show(2:Int)^4=16 from by decide];omega
theorem u8_and (H:T OB)(c:UInt8):cZ P H .and 5 true (some (.int .u8 (c.toNat:Int))) (some (.int .u8 15))=some (.int .u8 ((c.toNat%16:Nat):Int)):=by
 rw[Gx];congr 2;have hc:c.toNat<256:=c.toNat_lt;have e1:(BitVec.ofInt IntKind.u8.bits (c.toNat:Int) &&& BitVec.ofInt IntKind.u8.bits 15).toNat=c.toNat%16:=by
  rw[BitVec.toNat_and,BitVec.toNat_ofInt,BitVec.toNat_ofInt];have hb:IntKind.u8.bits=8:=rfl;rw[hb];have h1:((c.toNat:Int) % ((2^8:Nat):Int)).toNat=c.toNat:=by
   rw[show(2:Nat)^8=256 from by decide];omega
  have h2:((15:Int) % ((2^8:Nat):Int)).toNat=15:=by decide
  rw[h1,h2];exact Nat.and_two_pow_sub_one_eq_mod c.toNat 4
 rw[e1,wrap_u8];omega
theorem Wq.W1 {nx0:Nat}{H0:T OB}{nx:Nat}{H:T OB}{R:Value->T OB->Nat->Prop}{r:List UInt8}{sl:Value}{k:Value->T OB->Nat->Q}(hB:BS 5 nx0 H nx r sl)(hr:r≠[])(hA:Ag nx0 H0 nx H)(hk:∀H',Ag nx0 H0 (nx+1) H'->dJ P pl X0 (k (aM 1 (hZ r)) H' (nx+1)) nx0 H0 R):dJ P pl X0 (fl P 92 sl H nx k) nx0 H0 R:=by
 rcases hB with⟨rfl,_⟩ | ⟨b,c,hb0,hbx,hb,hc,rfl⟩
 . exact absurd rfl hr
 . have hch:chunk false 1 r.length (hZ r)=some (hZ r):=by
    have:=l_ (hZ r);simpa using this
   refine Wq.UI eY iC Vh rfl hb (by simp) ?_ hch ?_ hA hb0 λH' _ hA'=>hk H' hA'
   . rcases hc with rfl | rfl
     . simp
     . rw[Nat.ble_eq_true_of_le (Nat.le_refl _),Bool.or_true]
   . simp[hZ]
theorem TX {nx0:Nat}{H0:T OB}(l:List UInt8)(hl:l.length<9223372036854775807):∀(t:List UInt8) (i:Nat) (r:List UInt8) (sl:Value) (H:T OB) (nx:Nat),l.drop i=t->i<=l.length->r.length+(qs t).length+1<=1048576->BS 5 nx0 H nx r sl->Ag nx0 H0 nx H->
 dJ P pl X0 (.jump (oS (au l) sl (i64 (i:Int)) H nx)) nx0 H0 (λu H nx=>u=aM 1 (hZ (r++(qs t++[34])))):=by
 intro t
 induction t with
 | nil=>
   intro i r sl H nx hd hi hlen hB hA;have hil:=drop_nil hd hi;refine Wq.jmp (PY ..) (λ_=>rfl) ?_;simp only[ab,aT _ bl,aY,hil,aA];refine Wq.Ao eY iC jW hB (x:=[34]) rfl rfl (XQ 34) (λm hm=>ki (by simp at hm;simp at hlen;omega)) hA λH1 sl1 av hB1 hA1 _=> ?_;refine Wq.W1 hB1 (by simp) hA1 λH2 hA2=> ?_;exact Wq.uu hA2 (by simp[qs])
 | cons c t ih=>
   intro i r sl H nx hd hi hlen hB hA;obtain⟨hg,hlt,hd'⟩:=drop_cons hd;have hqs:qs (c::t)=qc c++qs t:=rfl;rw[hqs,List.length_append]at hlen;have fin:∀(x:List UInt8) (sl1:Value) H1 av,Ag nx0 H0 av H1->BS 5 nx0 H1 av (r++x) sl1->qc c=x->dJ P pl X0 (.jump (oS (au l) sl1 (i64 ((i+1:Nat):Int)) H1 av)) nx0 H0 (λu H nx=>u=aM 1 (hZ (r++(qs (c::t)++[34])))):=by
    intro x sl1 H1 av hA1 hB1 hx;have:=ih (i+1) (r++x) sl1 H1 av hd' (by omega) (by rw[List.length_append,<- hx];omega) hB1 hA1;rw[hqs,hx];simpa[List.append_assoc]using this
   have hc8:c.toNat<256:=c.toNat_lt;have L30:∀b:Bool,(b=true↔(c.toNat<32\/126<c.toNat))->¬(c.toNat=34\/c.toNat=92)->c.toNat≠10->c.toNat≠9->dJ P pl X0 (.jump (xp (au l) sl (i64 (i:Int)) (b8 c) b H nx)) nx0 H0 (λu H nx=>u=aM 1 (hZ (r++(qs (c::t)++[34])))):=by
    intro b hb h1 h2 h3;refine Wq.jmp (R4 ..) (λ_=>rfl) ?_;refine Wq.bK (λh=> ?_) (λh=> ?_)
    . have hq:qc c=[92,120,hx (c.toNat/16),hx (c.toNat%16)]:=by unfold qc;rw[if_neg h1,if_neg h2,if_neg h3,if_pos (hb.1 h)]
      rw[hq]at hlen;simp only[ab,TW,u8_and,Lc (show c.toNat/16<16 by omega),Lc (show c.toNat%16<16 by omega)];refine Wq.Ao eY iC jW hB (x:=[92,120,hx (c.toNat/16),hx (c.toNat%16)]) rfl rfl (fb4 92 120 _ _) (λm hm=>ki (by simp at hm;simp at hlen;omega)) hA λH1 sl1 av hB1 hA1 _=> ?_;simp only[ab,ao (show i<9223372036854775807 by omega)];exact fin _ _ _ _ hA1 hB1 hq
    . have hq:qc c=[c]:=by unfold qc;rw[if_neg h1,if_neg h2,if_neg h3,if_neg (λq=>by rw[hb.2 q]at h;cases h)]
      rw[hq]at hlen;refine Wq.Ao eY iC jW hB (x:=[c]) rfl rfl (XQ _) (λm hm=>ki (by simp at hm;simp at hlen;omega)) hA λH1 sl1 av hB1 hA1 _=> ?_;simp only[ab,ao (show i<9223372036854775807 by omega)];exact fin _ _ _ _ hA1 hB1 hq
   have L18:∀b:Bool,(b=true↔(c.toNat=34\/c.toNat=92))->dJ P pl X0 (.jump (xo (au l) sl (i64 (i:Int)) (b8 c) b H nx)) nx0 H0 (λu H nx=>u=aM 1 (hZ (r++(qs (c::t)++[34])))):=by
    intro b hb;refine Wq.jmp (R3 ..) (λ_=>rfl) ?_;refine Wq.bK (λh=> ?_) (λh=> ?_)
    . have hq:qc c=[92,c]:=by unfold qc;rw[if_pos (hb.1 h)]
      rw[hq]at hlen;refine Wq.Ao eY iC jW hB (x:=[92,c]) rfl rfl (Yz 92 _) (λm hm=>ki (by simp at hm;simp at hlen;omega)) hA λH1 sl1 av hB1 hA1 _=> ?_;simp only[ab,ao (show i<9223372036854775807 by omega)];exact fin _ _ _ _ hA1 hB1 hq
    have h1:¬(c.toNat=34\/c.toNat=92):=λq=>by rw[hb.2 q]at h;cases h
    simp only[ab];refine Wq.ite (λh2=> ?_) (λh2=> ?_)
    . have h2:c.toNat=10:=by omega
      have hq:qc c=[92,110]:=by unfold qc;rw[if_neg h1,if_pos h2]
      rw[hq]at hlen;refine Wq.Ao eY iC jW hB (x:=[92,110]) rfl rfl (Yz 92 110) (λm hm=>ki (by simp at hm;simp at hlen;omega)) hA λH1 sl1 av hB1 hA1 _=> ?_;simp only[ab,ao (show i<9223372036854775807 by omega)];exact fin _ _ _ _ hA1 hB1 hq
    have h2:c.toNat≠10:=by omega
    refine Wq.ite (λh3=> ?_) (λh3=> ?_)
    . have h3:c.toNat=9:=by omega
      have hq:qc c=[92,116]:=by unfold qc;rw[if_neg h1,if_neg h2,if_pos h3]
      rw[hq]at hlen;refine Wq.Ao eY iC jW hB (x:=[92,116]) rfl rfl (Yz 92 116) (λm hm=>ki (by simp at hm;simp at hlen;omega)) hA λH1 sl1 av hB1 hA1 _=> ?_;simp only[ab,ao (show i<9223372036854775807 by omega)];exact fin _ _ _ _ hA1 hB1 hq
    have h3:c.toNat≠9:=by omega
    refine Wq.ite (λh4=>L30 true (by simp;omega) h1 h2 h3) (λh4=>L30 _ (by rw[decide_eq_true_eq];omega) h1 h2 h3)
   refine Wq.jmp (PY ..) (λ_=>rfl) ?_;simp only[ab,aT _ bl,aY,aE hlt,bD bl hg];refine Wq.ite (λh1=>L18 true (by simp;omega)) (λh1=>L18 _ (by rw[decide_eq_true_eq];omega))
theorem YA {nx0:Nat}{H0:T OB}{nx:Nat}{H:T OB}(l:List UInt8)(hl:(qs l).length<=1000000)(hl2:l.length<9223372036854775807)(hA:Ag nx0 H0 nx H):
 dJ P pl X0 (aI P pl (.call 34 [au l] false none H nx)) nx0 H0 (λu H nx=>u=aM 1 (hZ (quote l))):=by
 rw[ZD];refine Wq.row eY iC jW rfl (XQ 34) hA λH1 hb1 _ hA1=> ?_;exact TX l hl2 l 0 [34] _ H1 _ rfl (Nat.zero_le _) (by simp;omega) (.inr ⟨nx,1,hA.1,by omega,hb1,.inr rfl,rfl⟩) hA1
section
variable {nx0 nx:Nat}{H0 H:T OB}{R:Go.Ev.Out->T OB->Nat->Prop}
theorem W2 (l:List UInt8)(hl:(qs l).length<=1000000)(hl2:l.length<9223372036854775807):P0 34 [au l] (aM 1 (hZ (quote l))):=Pure.of rfl λH nx=>YA l hl hl2 (.refl _ _)
def BU (nx0:Nat)(H:T OB)(nx:Nat)(r:List UInt8)(sl:Value):Prop:=(r=[]/\sl= .slice none 0 0)\/∃b,nx0<=b/\b<nx/\cA H b (hZ r) 5/\sl= .slice (some ⟨b,0,none⟩) r.length eO
theorem BU.cc {r:List UInt8}{sl:Value}{nx':Nat}{H':T OB}(h:BU nx0 H nx r sl)(hA:Ag nx H nx' H'):BU nx0 H' nx' r sl:=by
 rcases h with h | ⟨b,h1,h2,h3,h4⟩
 . exact .inl h
 . exact .inr ⟨b,h1,by have:=hA.1;omega,h3.ag hA h2,h4⟩
theorem BU.conv {r:List UInt8}{sl:Value}(h:BU nx0 H nx r sl):dk P H 92 9 (some sl)=some (au r):=by
 have:BS 5 nx0 H nx r sl:=by
  rcases h with h | ⟨b,h1,h2,h3,h4⟩
  . exact .inl h
  . exact .inr ⟨b,eO,h1,h2,h3,.inl rfl,h4⟩
 exact vj eY vn bl vC this
theorem BU.len {r:List UInt8}{sl:Value}(h:BU nx0 H nx r sl):cv P #[92] 3 (some [sl])=some (i64 (r.length:Int)):=by
 rcases h with⟨rfl,rfl⟩ | ⟨b,h1,h2,h3,rfl⟩
 . exact wG 3
 . exact wF 3 _ _ _
theorem Ld (x:List UInt8):((hZ x).flatMap λu=>u.cells.toList)=hZ x:=by
 induction x with
 | nil=>rfl
 | cons a l ih=>
   show(Value.int .u8 (Int.ofNat a.toNat)).cells.toList++(hZ l).flatMap (λu=>u.cells.toList)=_;rw[ih];rfl
theorem Wq.TY {f:FuncId}{args:List Value}{u:Value}{k p:Value->T OB->Nat->Q}(hT:dY nx0 H0)(hp:PT f args u)(h:Ag nx0 H0 nx H)
 (hk:∀H' nx',Ag nx0 H0 nx' H'->Ag nx H nx' H'->aF P pl X0 (k u H' nx') nx0 H0 R):aF P pl X0 (bQ (.call f args false none H nx) k p) nx0 H0 R:=by
 obtain⟨H1,av,h1,h2⟩:=hp H nx (hT.ag h);obtain⟨v,H2,nx2,h3,hR,h4⟩:=hk H1 av (h.trans h1) h1;refine⟨v,H2,nx2,h3,hR,?_⟩;show af (F P pl X0 (.call f args false none H nx)) (λr=>(match r.o with | .ret v=>k v r.H r.nx | .gv v=>p v r.H r.nx:Q).run (F P pl X0)) none=_;rw[h2];exact h4
theorem Wq.Le {f:FuncId}{args:List Value}{u:Value}{k p:Value->T OB->Nat->Q}(hp:P0 f args u)(h:Ag nx0 H0 nx H)
 (hk:∀H' nx',Ag nx0 H0 nx' H'->Ag nx H nx' H'->aF P pl X0 (k u H' nx') nx0 H0 R):aF P pl X0 (bQ (.call f args false none H nx) k p) nx0 H0 R:=by
 obtain⟨H1,av,h1,h2⟩:=hp H nx;obtain⟨v,H2,nx2,h3,hR,h4⟩:=hk H1 av (h.trans h1) h1;refine⟨v,H2,nx2,h3,hR,?_⟩;show af (F P pl X0 (.call f args false none H nx)) (λr=>(match r.o with | .ret v=>k v r.H r.nx | .gv v=>p v r.H r.nx:Q).run (F P pl X0)) none=_;rw[h2];exact h4
theorem Wq.YB {r x:List UInt8}{sl:Value}{k:Value->T OB->Nat->Q}(hsl:BU nx0 H nx r sl)(hx:x≠[])(hsm:r.length+x.length<=1048576)(h:Ag nx0 H0 nx H)
 (hk:∀H' sl' nx',BU nx0 H' nx' (r++x) sl'->Ag nx0 H0 nx' H'->aF P pl X0 (k sl' H' nx') nx0 H0 R):aF P pl X0 (aR (cO P H nx [92,92] (some [sl,aM 1 (hZ x)])) k) nx0 H0 R:=by
 have hxs:ny H 1 (aM 1 (hZ x))=some (x.length,hZ x):=by
  rw[z7];have:=Ld x;rw[this];simp
 have hx0:0<x.length:=List.length_pos_iff.2 hx;rcases hsl with⟨rfl,rfl⟩ | ⟨b,hb0,hbx,hb,rfl⟩
 . refine Wq.MN eY iC rfl hxs (ki (by simp at hsm;omega)) h (λq=>by omega) λH2 _ hb2 _ hA2=> ?_;exact hk _ _ _ (.inr ⟨nx,h.1,by omega,by simpa using hb2,by simp⟩) hA2
 . refine Wq.app eY iC hb iC (by simp) rfl hxs (rA x) (ki hsm) h hb0 hbx λH2 hb2 _ hA2=> ?_;exact hk _ _ _ (.inr ⟨nx,h.1,by omega,by rw[ja];exact hb2,by rw[List.length_append]⟩) hA2
theorem Wq.W3 {r x:List UInt8}{sl:Value}{k:Value->T OB->Nat->Q}(hsl:BU nx0 H nx r sl)(hsm:r.length+x.length<=1048576)(h:Ag nx0 H0 nx H)
 (hk:∀H' sl' nx',BU nx0 H' nx' (r++x) sl'->Ag nx0 H0 nx' H'->aF P pl X0 (k sl' H' nx') nx0 H0 R):aF P pl X0 (aR (cO P H nx [92,9] (some [sl,au x])) k) nx0 H0 R:=by
 have hq:nA P 9=true:=by kernel_rfl
 rcases hsl with⟨rfl,rfl⟩ | ⟨b,hb0,hbx,hb,rfl⟩
 . refine Wq.VP eY iC hq (ki (by simp at hsm;omega)) h (λh0=> ?_) λH2 h0 hb2 cc hA2=> ?_
   . subst h0;exact hk _ _ _ (.inl ⟨rfl,rfl⟩) h
   . exact hk _ _ _ (.inr ⟨_,h.1,by omega,by simpa using hb2,by simp⟩) hA2
 . refine Wq.Yb eY iC hq hb iC (by simp) (ki hsm) h hb0 hbx λH2 hb2 cc hA2=> ?_;exact hk _ _ _ (.inr ⟨_,h.1,by omega,by rw[ja];exact hb2,by simp⟩) hA2
theorem Wq.YC {r:List UInt8}{sl:Value}{k:Value->T OB->Nat->Q}(hsl:BU nx0 H nx r sl)(hr:r≠[])(hsm:r.length+1<=1048576)(h:Ag nx0 H0 nx H)
 (hk:∀H' sl' nx',BU nx0 H' nx' (r++[32]) sl'->Ag nx0 H0 nx' H'->aF P pl X0 (k sl' H' nx') nx0 H0 R):
 aF P pl X0 (aR (aJ P H nx 92 1 (some [(0,.int .u8 32)])) λv H nx=>aR (cO P H nx [92,92] (some [sl,v])) k) nx0 H0 R:=by
 refine Wq.row eY iC jW rfl (XQ 32) h λH1 hb1 cc hA1=> ?_;have hx1:ny H1 1 (.slice (some ⟨nx,0,none⟩) 1 1)=some (1,hZ [32]):=BJ (l:=hZ [32]) hb1 rfl;rcases hsl with⟨rfl,rfl⟩ | ⟨b,hb0,hbx,hb,rfl⟩
 . exact absurd rfl hr
 . have hn0:=h.1;refine Wq.app eY iC (cc _ _ _ hbx hb) iC (by simp) rfl hx1 (rA [32]) (ki hsm) hA1 hb0 (by omega) λH2 hb2 _ hA2=> ?_;exact hk _ _ _ (.inr ⟨nx+1,by omega,by omega,by rw[ja];exact hb2,by rw[List.length_append];rfl⟩) hA2
def cE (t:Tok):List UInt8:=if t.k=1 then vB t.n else if t.k=2 then quote t.s else t.s
def pr (out:List UInt8):List Tok->List UInt8
 | []=>out
 | t::ts=>pr ((if out=[]then out else out++[32])++cE t) ts
def tw:List Tok->Nat
 | []=>0
 | t::ts=>(cE t).length+1+tw ts
def m7 (t:Tok):Prop:=aV t=true/\t.k≠0/\rg t.n/\gi t.s
theorem G6 (l:List UInt8):(qs l).length<=(quote l).length:=by simp[quote];omega
theorem YD (t:Tok):t.v.cells.toList.length=4:=rfl
theorem YE (t:Tok):t.v.cells.toList.all aj=true:=rfl
theorem Lf (hT:dY nx0 H0)(l:List Tok)(hl:l.length<dQ)(hg:∀t,t∈l->m7 t):∀(r:List Tok) (i:Nat) (out:List UInt8) (sl:Value) (H:T OB) (nx:Nat),l.drop i=r->i<=l.length->out.length+tw r<=1000000->BU nx0 H nx out sl->Ag nx0 H0 nx H->
 dJ P pl X0 (.jump (tg sl (aM 4 (l.map Tok.v)) (i64 (l.length:Int)) (i64 (i:Int)) H nx)) nx0 H0 (λu _ _=>u= .tuple ⟨[au (pr out r),i64 0]⟩):=by
 intro r
 induction r with
 | nil=>
   intro i out sl H nx hd hi hw hB hA;have hil:=drop_nil hd hi;refine Wq.jmp (PN ..) (λ_=>rfl) ?_;simp only[ab,hil,aA,hB.conv];exact Wq.uu hA rfl
 | cons t r ih=>
   intro i out sl H nx hd hi hw hB hA;obtain⟨hgt,hlt,hd'⟩:=drop_cons hd;have hx:(l.map Tok.v)[i]? = some t.v:=by simp[hgt]
   obtain⟨g1,g2,g3,g4⟩:=hg t (List.mem_of_getElem? hgt);rw[tw]at hw;refine Wq.jmp (PN ..) (λ_=>rfl) ?_;simp only[ab,aE hlt,IF hx];refine Wq.Rv dS eA rfl (YD _) (YE _) hA λH1 av hA1 hn1 hk1=> ?_;have hB1:BU nx0 H1 av out sl:=by
    rcases hB with h | ⟨b,h1,h2,h3,h4⟩
    . exact .inl h
    . exact .inr ⟨b,h1,by omega,hk1 _ _ _ h2 h3,h4⟩
   refine Wq.TY hT (JI t (Cl g4)) hA1 λH2 nx2 hA2 hB2=> ?_;rw[g1];have hB2:=hB1.cc hB2;simp only[ab];refine Wq.ite (λh=>absurd h g2) (λ_=> ?_);simp only[ab,hB2.len,jJ];have fin:∀(out':List UInt8) (sl':Value) H3 nx3,out'=(if out=[]then out else out++[32])->BU nx0 H3 nx3 out' sl'->Ag nx0 H0 nx3 H3->dJ P pl X0 (.jump (wS sl' (aa t.v) (aM 4 (l.map Tok.v)) (i64 (l.length:Int)) (i64 (i:Int)) H3 nx3)) nx0 H0 (λu _ _=>u= .tuple ⟨[au (pr out (t::r)),i64 0]⟩):=by
    intro out' sl' H3 nx3 ho hB3 hA3;have hlen:out'.length<=out.length+1:=by
     rw[ho];split
     . omega
     . rw[List.length_append,List.length_singleton];omega
    have hwi:i<9223372036854775807:=by have:=cM hl;omega
    have e1:pr out (t::r)=pr (out'++cE t) r:=by rw[ho];rfl
    have nxt:∀sl4 H4 nx4,BU nx0 H4 nx4 (out'++cE t) sl4->Ag nx0 H0 nx4 H4->dJ P pl X0 (.jump (tg sl4 (aM 4 (l.map Tok.v)) (i64 (l.length:Int)) (i64 ((i+1:Nat):Int)) H4 nx4)) nx0 H0 (λu _ _=>u= .tuple ⟨[au (pr out (t::r)),i64 0]⟩):=by
     intro sl4 H4 nx4 hB4 hA4;rw[e1];exact ih (i+1) _ sl4 H4 nx4 hd' (by omega) (by rw[List.length_append];omega) hB4 hA4
    refine Wq.jmp (RM ..) (λ_=>rfl) ?_;simp only[ab];refine Wq.ite (λhk=> ?_) (λhk1=> ?_)
    . have et:cE t=vB t.n:=by unfold cE;rw[if_pos hk]
      refine Wq.Le (W0 t.n g3) hA3 λH4 nx4 hA4 hB4=> ?_;refine Wq.W3 (hB3.cc hB4) (by rw[<- et];omega) hA4 λH5 sl5 nx5 hB5 hA5=> ?_;simp only[ab,ao hwi];rw[<- et]at hB5;exact nxt _ _ _ hB5 hA5
    refine Wq.ite (λhk=> ?_) (λhk2=> ?_)
    . have et:cE t=quote t.s:=by unfold cE;rw[if_neg hk1,if_pos hk]
      have hq:=G6 t.s;refine Wq.Le (W2 t.s (by rw[<- et]at hq;omega) (Cl g4)) hA3 λH4 nx4 hA4 hB4=> ?_;refine Wq.YB (hB3.cc hB4) (by simp[quote]) (by rw[<- et];omega) hA4 λH5 sl5 nx5 hB5 hA5=> ?_;simp only[ab,ao hwi];rw[<- et]at hB5;exact nxt _ _ _ hB5 hA5
    . have et:cE t=t.s:=by unfold cE;rw[if_neg hk1,if_neg hk2]
      refine Wq.W3 hB3 (by rw[<- et];omega) hA3 λH5 sl5 nx5 hB5 hA5=> ?_;simp only[ab,ao hwi];rw[<- et]at hB5;exact nxt _ _ _ hB5 hA5
   refine Wq.ite (λh=> ?_) (λh=> ?_)
   . have hne:out≠[]:=λq=>by subst q;simp at h
     refine Wq.YC hB2 hne (by omega) hA2 λH3 sl3 nx3 hB3 hA3=> ?_;exact fin _ _ _ _ (by rw[if_neg hne]) hB3 hA3
   . have he:out=[]:=by cases out with
      | nil=>rfl
      | cons a l=>simp at h
     exact fin _ _ _ _ (by rw[if_pos he]) hB2 hA2
theorem YF (hT:dY nx0 H0)(l:List Tok)(hl:l.length<dQ)(hg:∀t,t∈l->m7 t)(hw:tw l<=1000000){sl:Value}(hS:TS nx0 H nx l sl)(hA:Ag nx0 H0 nx H):dJ P pl X0 (aI P pl (.call 16 [sl] false none H nx)) nx0 H0 (λu _ _=>u= .tuple ⟨[au (pr [] l),i64 0]⟩):=by
 rw[Zm];rcases hS with⟨rfl,rfl⟩ | ⟨b,hb0,hbx,hb,rfl⟩
 . have e1:∀k,fl P 35 (.slice none 0 0) H nx k=k (aM 4 []) H nx:=λk=>by kernel_rfl
   rw[e1];simp only[ab];exact Lf hT [] hl hg [] 0 [] _ H nx rfl (Nat.zero_le _) (by simpa using hw) (.inl ⟨rfl,rfl⟩) hA
 . have hch:chunk true 4 l.length (Az l)=some (l.map Tok.v):=by
    have h1:=kY 4 (l.map Tok.c) (λx hx=>by obtain⟨t,_,rfl⟩:=List.mem_map.1 hx;rfl);rw[List.length_map,List.map_map]at h1;unfold Az;rw[List.flatMap_def];exact h1
   refine Wq.UI kZ eA nO rfl hb (AA l) (by simp) hch (by simp) hA hb0 λH' _ hA'=> ?_;simp only[ab,List.length_map];exact Lf hT l hl hg l 0 [] _ H' _ rfl (Nat.zero_le _) (by simpa using hw) (.inl ⟨rfl,rfl⟩) hA'
end
theorem G7 (a b:List Tok):tw (a++b)=tw a+tw b:=by
 induction a with
 | nil=>simp[tw]
 | cons t a ih=>rw[List.cons_append,tw,tw,ih];omega
def GT (ts:List Tok)(m:Nat):Prop:=(∀t,t∈ts->m7 t)/\tw ts<=m
theorem GT.nil (m:Nat):GT [] m:=⟨(λt h=>nomatch h),Nat.zero_le _⟩
theorem GT.mono {ts:List Tok}{m n:Nat}(h:GT ts m)(hn:m<=n):GT ts n:=⟨h.1,Nat.le_trans h.2 hn⟩
theorem GT.append {a b:List Tok}{m n:Nat}(h:GT a m)(h':GT b n):GT (a++b) (m+n):=⟨λt ht=>(List.mem_append.1 ht).elim (h.1 t) (h'.1 t),by rw[G7];exact Nat.add_le_add h.2 h'.2⟩
theorem GT.cons {t:Tok}{b:List Tok}{m n:Nat}(h:GT [t] m)(h':GT b n):GT (t::b) (m+n):=h.append h'
theorem GT.one {t:Tok}{m:Nat}(h:m7 t)(hm:(cE t).length+1<=m):GT [t] m:=⟨λx hx=>by rw[List.mem_singleton.1 hx];exact h,by simpa[tw]using hm⟩
theorem GT.list {α:Type}{tf:Bool->α->List Tok}{w:α->Nat}:∀{l:List α},(∀a,a∈l->∀b,GT (tf b a) (w a))->∀b,GT (bj tf b l) (dh w l)
 | [],_,b=>GT.nil _
 | a::l,h,b=>(h a (by simp) b).append (GT.list (λc hc=>h c (by simp[hc])) false)
theorem XR:rg 0:=by unfold rg;omega
theorem GT.sg {s:List UInt8}(h:bC.contains s=true):GT [cN s] 3:=by
 have hs:s.length<=2:=by
  have:∀x∈bC,x.length<=2:=by decide
  exact this s (by simpa using h)
 exact GT.one ⟨by show(decide ((0:Int)=0)&&bC.contains s)=true;rw[h];rfl,by simp,XR,by show s.length<_;omega⟩ (by show s.length+1<=3;omega)
theorem GT.ky {s:List UInt8}(h:aV (eg s)=true)(hs:s.length<=9):GT [eg s] 10:=GT.one ⟨h,by simp,XR,by show s.length<_;omega⟩ (by show s.length+1<=10;omega)
theorem GT.wd {k:Int}{s:List UInt8}(hk:k=3\/k=4\/k=5)(h:aU k s=true)(hs:gi s):GT [⟨k,s,0,0⟩] (s.length+1):=
 GT.one ⟨h,by rcases hk with rfl | rfl | rfl<;>simp,XR,hs⟩ (by
  have:cE ⟨k,s,0,0⟩=s:=by rcases hk with rfl | rfl | rfl<;>rfl
  rw[this];exact Nat.le_refl _)
theorem GT.num {n:Int}(h0:0<=n)(h1:n<=4611686018427387903):GT [⟨1,[],n,0⟩] 21:=
 GT.one ⟨by simp[aV,h0,h1],by simp,by show rg n;unfold rg;omega,by show 0<_;omega⟩ (by
  have:=Cr n (by omega);show(vB n).length+1<=21;omega)
theorem GT.au {s:List UInt8}(hs:gi s):GT [⟨2,s,0,0⟩] (4*s.length+3):=
 GT.one ⟨by simp[aV],by simp,XR,hs⟩ (by
  have:=G5 s;show(quote s).length+1<=_;simp[quote];omega)
theorem eN {α:Type}(z:α->Nat)(k:Nat):∀l:List α,dh (λa=>k*z a) l=k*dh z l
 | []=>by simp[dh]
 | a::l=>by rw[dh,dh,eN z k l,Nat.mul_add]
theorem mS:∀l:List aB,dh aB.z l=bB l
 | []=>rfl
 | a::l=>by rw[dh,bB,mS l]
theorem tR:∀l:List aO,dh aO.z l=eF l
 | []=>rfl
 | a::l=>by rw[dh,eF,tR l]
theorem vD:∀l:List cS,dh cS.z l=fw l
 | []=>rfl
 | a::l=>by rw[dh,fw,vD l]
theorem qj:∀l:List aq,dh aq.z l=bO l
 | []=>rfl
 | a::l=>by rw[dh,bO,qj l]
theorem qk:∀l:List aG,dh aG.z l=ek l
 | []=>rfl
 | a::l=>by rw[dh,ek,qk l]
theorem AS:∀l:List Fn,dh Fn.z l=jf l
 | []=>rfl
 | a::l=>by rw[dh,jf,AS l]
theorem GT.sep {α:Type}{s:List UInt8}{f:α->List Tok}{w:α->Nat}(hs:bC.contains s=true){a:α}(h:GT (f a) (w a))(b:Bool):GT (bN s f b a) (w a+3):=by
 unfold bN;cases b with
 | true=>exact(h.mono (by omega):GT (f a) (w a+3))
 | false=>exact((GT.sg hs).append h).mono (by omega)
theorem bG {α:Type}{l:List α}{p:α->Bool}(h:l.all p=true){a:α}(ha:a∈l):p a=true:=List.all_eq_true.1 h a ha
def W4 (p:aB):Prop:=bx p=true->p.ok->GT (fR p) (100*p.z-20)/\GT (aS p) (100*p.z-10)/\∀a,a∈p.l->GT (aS a) (100*a.z-10)
theorem Cs (p:aB):W4 p:=aB.ind (p:=W4) (λp ih hr hp=>by
 rw[aB.bm]at hp;obtain⟨hn,hs,hl,hok⟩:=hp;have hz:=p.fY;have e0:=h_ p;rw[hr]at e0;have e1:=e0.symm;rw[Bool.and_eq_true,cJ]at e1;obtain⟨hrl,hd⟩:=e1;have hE:∀a,a∈p.l->GT (aS a) (100*a.z-10):=λa ha=>(ih a ha (bG hrl ha) (hok a ha)).2.1;have hE2:∀q,q∈p.l->∀a,a∈q.l->GT (aS a) (100*a.z-10):=λq hq=>(ih q hq (bG hrl hq) (hok q hq)).2.2;have hrow:∀b,GT (bj (bN [44] aS) b p.l) (100*bB p.l):=λb=>by
  rw[<- mS,<- eN];exact GT.list (λa ha b=>(GT.sep (f:=aS) (a:=a) (w:=λa=>100*a.z-10) (by decide +kernel) (hE a ha) b).mono (by have:=a.bJ;omega)) b
 have hrow2:∀b,GT (bj (λ_=>aS) b p.l) (100*bB p.l):=λb=>by
  rw[<- mS,<- eN];exact GT.list (λa ha b=>(hE a ha).mono (by omega)) b
 have hlen:=Nat.div_add_mod p.s.length 8;have hmod:=Nat.mod_lt p.s.length (show 0<8 by omega);have hT:GT (fR p) (100*p.z-20):=by
  rw[mQ];unfold mw;unfold kj at hd;rw[Bool.and_eq_true]at hd;obtain⟨_,hd⟩:=hd
  by_cases h1:p.k=1
  . rw[if_pos h1];exact(GT.sg (by decide +kernel)).mono (by omega)
  rw[if_neg h1]at hd ⊢
  by_cases h2:p.k=2
  . rw[if_pos h2]at hd ⊢;rw[Bool.and_eq_true]at hd;exact(GT.wd (.inl rfl) hd.1 hs).mono (by omega)
  rw[if_neg h2]at hd ⊢
  by_cases h3:p.k=3
  . rw[if_pos h3]at hd ⊢;simp only[Bool.and_eq_true,decide_eq_true_eq]at hd;split
    . exact((GT.sg (by decide +kernel)).cons (GT.num (by omega) (by omega))).mono (by omega)
    . exact(GT.num (by omega) (by omega)).mono (by omega)
  rw[if_neg h3]at hd ⊢
  by_cases h4:p.k=4
  . rw[if_pos h4];exact(GT.au hs).mono (by omega)
  rw[if_neg h4]at hd ⊢
  by_cases h5:p.k=5
  . rw[if_pos h5,fA];exact((GT.sg (by decide +kernel)).cons ((hrow true).append (GT.sg (by decide +kernel)))).mono (by omega)
  rw[if_neg h5]at hd ⊢
  by_cases h6:p.k=6
  . rw[if_pos h6]at hd ⊢
    by_cases hc:p.s=[58,58]
    . rw[if_pos hc]at hd ⊢
      match hpl:p.l with
      | []=>exact GT.nil _
      | q::q'::r=>exact GT.nil _
      | [q]=>
        have hq:q∈p.l:=by rw[hpl];simp
        have hz1:bB p.l=q.z+0:=by rw[hpl];rfl
        have hz2:=q.fY;simp only[List.map_cons,List.map_nil];rw[oZ q]
        match hql:q.l with
        | []=>exact GT.nil _
        | [a]=>exact GT.nil _
        | a::b::c::r=>exact GT.nil _
        | [a,b]=>
          have hz3:bB q.l=a.z+(b.z+0):=by rw[hql];rfl
          exact((hE2 q hq a (by rw[hql];simp)).append ((GT.sg (by decide +kernel)).cons (hE2 q hq b (by rw[hql];simp)))).mono (by have:=a.bJ;have:=b.bJ;omega)
    . rw[if_neg hc]at hd ⊢;rw[Bool.and_eq_true]at hd;rw[fA];exact((GT.wd (.inr (.inl rfl)) hd.1 hs).cons (hrow2 true)).mono (by omega)
  . rw[if_neg h6];exact GT.nil _
 refine⟨hT,?_,hE⟩;rw[kz];split
 . exact((GT.sg (by decide +kernel)).cons (hT.append (GT.sg (by decide +kernel)))).mono (by omega)
 . exact hT.mono (by omega)) p
def Zd (t:aO):Prop:=im t=true->t.ok->GT (qi t) (100*t.z-20)/\GT (e6 t) (100*t.z-10)
theorem Fv {s:List UInt8}(h:(decide (s=[114,101,102])||aU 3 s)=true)(hs:gi s):GT (my s) (s.length+10):=by
 unfold my;split
 . rename_i h1;subst h1;exact(GT.ky (by decide +kernel) (by decide +kernel)).mono (by omega)
 . rename_i h1;rw[decide_eq_false h1,Bool.false_or]at h;exact(GT.wd (.inl rfl) h hs).mono (by omega)
theorem W5 (t:aO):Zd t:=aO.ind (p:=Zd) (λt ih hr hp=>by
 rw[aO.bm]at hp;obtain⟨hs,hl,hok⟩:=hp;have hz:=t.fY;have e0:=yn t;rw[hr]at e0;have e1:=e0.symm;rw[Bool.and_eq_true,eV]at e1;obtain⟨hrl,hd⟩:=e1;have hE:∀a,a∈t.l->GT (e6 a) (100*a.z-10):=λa ha=>(ih a ha (bG hrl ha) (hok a ha)).2;have hrow:∀s,bC.contains s=true->GT (bj (bN s e6) true t.l) (100*eF t.l):=λs hsg=>by
  rw[<- tR,<- eN];exact GT.list (λa ha b=>(GT.sep (f:=e6) (a:=a) (w:=λa=>100*a.z-10) hsg (hE a ha) b).mono (by have:=a.bJ;omega)) true
 have hlen:=Nat.div_add_mod t.s.length 8;have hmod:=Nat.mod_lt t.s.length (show 0<8 by omega);have hrow':∀s,bC.contains s=true->GT (bj (bN s tN) true (t.l.map WW)) (100*eF t.l):=λs hsg=>by
  rw[fA];exact hrow s hsg
 have hT:GT (qi t) (100*t.z-20):=by
  rw[Cm];unfold GQ;unfold Ay at hd
  by_cases h1:t.k=1
  . rw[if_pos h1]at hd ⊢;rw[Bool.and_eq_true]at hd;exact(GT.wd (.inr (.inr rfl)) hd.2 hs).mono (by omega)
  rw[if_neg h1]at hd ⊢
  by_cases h3:t.k=3
  . rw[if_pos h3];exact(hrow' _ (by decide +kernel)).mono (by omega)
  rw[if_neg h3]at hd ⊢
  by_cases h4:t.k=4
  . rw[if_pos h4];exact(hrow' _ (by decide +kernel)).mono (by omega)
  rw[if_neg h4]at hd ⊢
  by_cases h2:t.k=2
  . rw[if_pos h2]at hd ⊢;split
    . exact((GT.sg (by decide +kernel)).cons ((hrow' _ (by decide +kernel)).append ((GT.sg (by decide +kernel)).cons (Fv hd hs)))).mono (by omega)
    . exact((hrow' _ (by decide +kernel)).append (Fv hd hs)).mono (by omega)
  . rw[if_neg h2];exact GT.nil _
 refine⟨hT,?_⟩;rw[rE];split
 . exact hT.mono (by omega)
 . exact((GT.sg (by decide +kernel)).cons (hT.append (GT.sg (by decide +kernel)))).mono (by omega)) t
theorem Lg (c:cS)(hr:jg c=true)(hc:c.ok):GT (gM c) (100*c.z-20):=by
 obtain⟨h1,h2,h3⟩:=hc;unfold jg at hr;rw[Bool.and_eq_true,Bool.and_eq_true,eV]at hr;have hz:c.z=1+c.s.length/8+eF c.arg:=rfl;have hlen:=Nat.div_add_mod c.s.length 8;have hmod:=Nat.mod_lt c.s.length (show 0<8 by omega);have hrow:GT (bj (λ_ t=>eg [111,102]::qi t) true c.arg) (100*eF c.arg):=by
  rw[<- tR,<- eN];exact GT.list (λa ha b=>((GT.ky (by decide +kernel) (by decide +kernel)).cons (W5 a (bG hr.2.2 ha) (h3 a ha)).1).mono (by have:=a.bJ;omega)) true
 exact((GT.wd (.inr (.inl rfl)) hr.1 h1).cons hrow).mono (by omega)
theorem Oh (x:Data)(hr:iv x=true)(hx:x.ok):GT (kA x) (100*x.z+40):=by
 obtain⟨⟨h1,h2⟩,h3,h4,h5⟩:=hx;unfold iv at hr;rw[Bool.and_eq_true,Bool.and_eq_true,Bool.and_eq_true,lj,lk]at hr;have hz:x.z=dT x.vars+x.s.length/8+fw x.cons:=rfl;have hlen:=Nat.div_add_mod x.s.length 8;have hmod:=Nat.mod_lt x.s.length (show 0<8 by omega);have hv:GT (bj (bN [44] λs=>[(⟨5,s,0,0⟩:Tok)]) true x.vars) (100*dT x.vars):=by
  have hsum:∀l:List (List UInt8),dh (λs=>100*(1+s.length/8)) l=100*dT l:=by
   intro l
   induction l with
   | nil=>rfl
   | cons a l ih=>rw[dh,ih,dT];omega
  rw[<- hsum];exact GT.list (λa ha b=>(GT.sep (f:=λs=>[(⟨5,s,0,0⟩:Tok)]) (a:=a) (w:=λs=>s.length+1) (by decide +kernel) (GT.wd (.inr (.inr rfl)) (bG hr.1 ha) (h2 a ha)) b).mono (by
   have:=Nat.div_add_mod a.length 8;have:=Nat.mod_lt a.length (show 0<8 by omega);omega)) true
 have hc:GT (bj (λb c=>cN (if b=true then[61]else[124])::gM c) true x.cons) (100*fw x.cons):=by
  rw[<- vD,<- eN];exact GT.list (λa ha b=>((GT.sg (by cases b<;>decide +kernel)).cons (Lg a (bG hr.2.1 ha) (h5 a ha))).mono (by have:=a.bJ;omega)) true
 have b1:GT (if 1<x.vars.length then[cN [40]]else[]) 3:=by split;exact GT.sg (by decide +kernel);exact GT.nil _
 have b2:GT (if 1<x.vars.length then[cN [41]]else[]) 3:=by split;exact GT.sg (by decide +kernel);exact GT.nil _
 exact((GT.ky (by decide +kernel) (by decide +kernel)).cons (b1.append (hv.append (b2.append ((GT.wd (.inl rfl) hr.2.2.1 h3).cons hc))))).mono (by omega)
theorem QJ {s:List UInt8}(h:il.contains s=true\/cX.contains s=true):GT [tI s] 10:=by
 have key:∀x∈il++cX,((match x with | []=>false | c::_=>cL c)=true/\aV (eg x)=true/\x.length<=9)\/((match x with | []=>false | c::_=>cL c)=false/\bC.contains x=true):=by decide +kernel
 have hm:s∈il++cX:=by
  rw[List.mem_append]
  rcases h with h | h
  . exact .inl (by simpa using h)
  . exact .inr (by simpa using h)
 rcases key s hm with⟨h1,h2,h3⟩ | ⟨h1,h2⟩
 . have e:tI s=eg s:=by
    unfold tI;exact if_pos h1
   rw[e];exact GT.ky h2 h3
 . have e:tI s=cN s:=by
    unfold tI;exact if_neg (λq=>by have q':=h1.symm.trans q;cases q')
   rw[e];exact(GT.sg h2).mono (by omega)
theorem yN (ps:List aB):∀(l:List aq) (b:Bool),(∀p,p∈ps->GT (aS p) (100*p.z-10))->(∀e,e∈l->GT (ay e) (100*e.z-10))->GT (ec b (ps.map aS) (l.map ay)) (100*bB ps+100*bO l):=by
 induction ps with
 | nil=>intro l b _ _;exact GT.nil _
 | cons p ps ih=>
   intro l b hp hl;cases l with
   | nil=>exact GT.nil _
   | cons e l=>
     rw[List.map_cons,List.map_cons,ec,bB,bO];have h1:=hp p (by simp);have h2:=hl e (by simp);have h3:=ih l false (λq hq=>hp q (by simp[hq])) (λq hq=>hl q (by simp[hq]));have b1:GT (if b=true then[]else[cN [124]]) 3:=by split;exact GT.nil _;exact GT.sg (by decide +kernel)
     exact(b1.append (h1.append ((GT.sg (by decide +kernel)).cons (h2.append h3)))).mono (by have:=p.bJ;have:=e.bJ;omega)
def Lh (e:aq):Prop:=bh e=true->e.ok->GT (dm e) (100*e.z-20)/\GT (ay e) (100*e.z-10)/\∀a,a∈e.l->GT (ay a) (100*a.z-10)
def Oi (d:aG):Prop:=eo d=true->d.ok->GT (eM d) (100*d.z-10)
theorem Oj (e:aq)(ihE:∀c,c∈e.l->Lh c)(ihD:∀d,d∈e.d->Oi d):Lh e:=λhr he=>by
 rw[aq.bm]at he;obtain⟨hn,hs,⟨hl1,hl2⟩,⟨hp1,hp2⟩,hd1,hd2⟩:=he;have hz:=e.fY;have e0:=fS e;rw[hr]at e0;have e1:=e0.symm;simp only[Bool.and_eq_true]at e1;obtain⟨_,hrl,hrp,hrd,hlf,hd⟩:=e1;rw[jn]at hrl;have hE:∀a,a∈e.l->GT (ay a) (100*a.z-10):=λa ha=>(ihE a ha (bG hrl ha) (hl2 a ha)).2.1;have hE2:∀q,q∈e.l->∀a,a∈q.l->GT (ay a) (100*a.z-10):=λq hq=>(ihE q hq (bG hrl hq) (hl2 q hq)).2.2;have hrowG:∀(l:List aq) s,bC.contains s=true->(∀a,a∈l->GT (ay a) (100*a.z-10))->GT (bj (bN s ay) true l) (100*bO l):=λl s hsg h=>by
  rw[<- qj,<- eN];exact GT.list (λa ha b=>(GT.sep (f:=ay) (a:=a) (w:=λa=>100*a.z-10) hsg (h a ha) b).mono (by have:=a.bJ;omega)) true
 have hrow:∀s,bC.contains s=true->GT (cU s ((e.l.map λe=>(e.k,iE e)).map d_)) (100*bO e.l):=λs hsg=>by
  rw[gW];exact hrowG e.l s hsg hE
 have hP:(decide (e.k=7\/e.k=9\/e.k=12))=true->∀p,p∈e.p->GT (aS p) (100*p.z-10):=λhk p hp=>by
  rw[hk]at hrp;have hrp':bz e.p=true:=by simpa using hrp
  rw[cJ]at hrp';exact(Cs p (bG hrp' hp) (hp2 p hp)).2.1
 have hD:e.k=10->GT ((e.d.map eM).flatMap λd=>d++[cN [59]]) (100*ek e.d):=λhk=>by
  rw[hk]at hrd;have hrd':de e.d=true:=by simpa using hrd
  rw[fB]at hrd';rw[List.flatMap_map,<- eI (λd=>eM d++[cN [59]]) e.d true,<- qk,<- eN];exact GT.list (λa ha b=>((ihD a ha (bG hrd' ha) (hd2 a ha)).append (GT.sg (by decide +kernel))).mono (by have:=a.bJ;omega)) true
 have hlen:=Nat.div_add_mod e.s.length 8;have hmod:=Nat.mod_lt e.s.length (show 0<8 by omega);have hT:GT (dm e) (100*e.z-20):=by
  rw[dU];unfold tO;unfold fx at hd
  by_cases h1:e.k=1
  . rw[if_pos h1]at hd ⊢;simp only[Bool.and_eq_true,decide_eq_true_eq]at hd;exact(GT.num hd.1 hd.2).mono (by omega)
  rw[if_neg h1]at hd ⊢
  by_cases h2:e.k=2
  . rw[if_pos (.inl h2),h2];exact(GT.au hs).mono (by omega)
  rw[if_neg h2]at hd
  by_cases h3:e.k=3
  . rw[if_pos h3]at hd;rw[if_pos (.inr (.inl h3)),h3];exact(GT.wd (.inl rfl) hd hs).mono (by omega)
  rw[if_neg h3]at hd
  by_cases h4:e.k=4
  . rw[if_pos h4]at hd;rw[if_pos (.inr (.inr h4)),h4];exact(GT.wd (.inr (.inl rfl)) hd hs).mono (by omega)
  rw[if_neg (show ¬(e.k=2\/e.k=3\/e.k=4)by omega)];rw[if_neg h4]at hd
  by_cases h5:e.k=5
  . rw[if_pos h5];exact((GT.sg (by decide +kernel)).cons ((hrow _ (by decide +kernel)).append (GT.sg (by decide +kernel)))).mono (by omega)
  rw[if_neg h5]at hd ⊢
  by_cases h13:e.k=13
  . rw[if_pos h13];exact((GT.sg (by decide +kernel)).cons ((hrow _ (by decide +kernel)).append (GT.sg (by decide +kernel)))).mono (by omega)
  rw[if_neg h13]at hd ⊢
  by_cases h10:e.k=10
  . rw[if_pos h10]
    match hel:e.l with
    | []=>exact GT.nil _
    | x::y::r=>exact GT.nil _
    | [x]=>
      have hx:x∈e.l:=by rw[hel];simp
      have hz1:bO e.l=x.z+0:=by rw[hel];rfl
      have hxz:=x.fY;simp only[List.map_cons,List.map_nil];have hb:GT (if x.k=13 then cU [59] (iE x).2 else d_ (x.k,iE x)) (100*x.z):=by
       split
       . rw[rF x];show GT (cU [59] (x.l.map ay)) _;rw[gN];exact(hrowG x.l _ (by decide +kernel) (hE2 x hx)).mono (by omega)
       . exact(hE x hx).mono (by omega)
      exact((GT.ky (by decide +kernel) (by decide +kernel)).cons ((hD h10).append ((GT.ky (by decide +kernel) (by decide +kernel)).cons (hb.append (GT.ky (by decide +kernel) (by decide +kernel)))))).mono (by omega)
  rw[if_neg h10]
  by_cases h6:e.k=6
  . rw[if_neg (by omega),if_neg (by omega),if_pos h6];rw[List.map_map];show GT (e.l.map ay).flatten _;rw[<- List.flatMap_def,<- eI ay e.l true];have:GT (bj (λ_=>ay) true e.l) (100*bO e.l):=by
     rw[<- qj,<- eN];exact GT.list (λa ha b=>(hE a ha).mono (by omega)) true
    exact this.mono (by omega)
  rw[if_neg h6]at hd
  by_cases h14:e.k=14
  . rw[if_pos h14];rw[if_neg (by omega),if_neg (by omega),if_neg (by omega),if_neg (by omega),if_pos h14,Bool.and_eq_true]at hd
    match hel:e.l with
    | []=>exact GT.nil _
    | [x]=>exact GT.nil _
    | x::y::w::r=>exact GT.nil _
    | [x,y]=>
      have hz1:bO e.l=x.z+(y.z+0):=by rw[hel];rfl
      simp only[List.map_cons,List.map_nil];exact((hE x (by rw[hel];simp)).append ((QJ (.inl hd.2)).cons (hE y (by rw[hel];simp)))).mono (by have:=x.bJ;have:=y.bJ;omega)
  rw[if_neg h14]
  by_cases h15:e.k=15
  . rw[if_pos h15];rw[if_neg (by omega),if_neg (by omega),if_neg (by omega),if_neg (by omega),if_neg h14,if_pos h15,Bool.and_eq_true]at hd
    match hel:e.l with
    | []=>exact GT.nil _
    | x::y::r=>exact GT.nil _
    | [x]=>
      have hz1:bO e.l=x.z+0:=by rw[hel];rfl
      simp only[List.map_cons,List.map_nil];exact((QJ (.inr hd.2)).cons (hE x (by rw[hel];simp))).mono (by have:=x.bJ;omega)
  rw[if_neg h15,if_neg h6]
  by_cases h8:e.k=8
  . rw[if_pos h8]
    match hel:e.l with
    | []=>exact GT.nil _
    | [x]=>exact GT.nil _
    | [x,y]=>exact GT.nil _
    | x::y::w::v::r=>exact GT.nil _
    | [x,y,w]=>
      have hz1:bO e.l=x.z+(y.z+(w.z+0)):=by rw[hel];rfl
      simp only[List.map_cons,List.map_nil];exact((GT.ky (by decide +kernel) (by decide +kernel)).cons ((hE x (by rw[hel];simp)).append ((GT.ky (by decide +kernel) (by decide +kernel)).cons ((hE y (by rw[hel];simp)).append ((GT.ky (by decide +kernel) (by decide +kernel)).cons (hE w (by rw[hel];simp))))))).mono (by have:=x.bJ;have:=y.bJ;have:=w.bJ;omega)
  rw[if_neg h8]
  by_cases h11:e.k=11
  . rw[if_pos h11];exact((GT.ky (by decide +kernel) (by decide +kernel)).cons (hrow _ (by decide +kernel))).mono (by omega)
  rw[if_neg h11]
  by_cases h7:e.k=7
  . rw[if_pos h7,List.map_map];exact((GT.ky (by decide +kernel) (by decide +kernel)).cons (yN e.p e.l true (hP (by simp[h7])) hE)).mono (by omega)
  rw[if_neg h7]
  by_cases h9:e.k=9
  . rw[if_pos h9]
    match hel:e.l with
    | []=>exact GT.nil _
    | x::r=>
      have hz1:bO e.l=x.z+bO r:=by rw[hel];rfl
      simp only[List.map_cons,List.map_map];exact((GT.ky (by decide +kernel) (by decide +kernel)).cons ((hE x (by rw[hel];simp)).append ((GT.ky (by decide +kernel) (by decide +kernel)).cons (yN e.p r true (hP (by simp[h9])) (λa ha=>hE a (by rw[hel];simp[ha])))))).mono (by have:=x.bJ;omega)
  rw[if_neg h9]
  by_cases h12:e.k=12
  . rw[if_pos h12]
    match hel:e.l with
    | []=>exact GT.nil _
    | x::r=>
      have hz1:bO e.l=x.z+bO r:=by rw[hel];rfl
      simp only[List.map_cons,List.map_map];exact((hE x (by rw[hel];simp)).append ((GT.ky (by decide +kernel) (by decide +kernel)).cons (yN e.p r true (hP (by simp[h12])) (λa ha=>hE a (by rw[hel];simp[ha]))))).mono (by have:=x.bJ;omega)
  rw[if_neg h12];exact GT.nil _
 refine⟨hT,?_,hE⟩;rw[jm];split
 . exact hT.mono (by omega)
 . exact((GT.sg (by decide +kernel)).cons (hT.append (GT.sg (by decide +kernel)))).mono (by omega)
theorem Ok (d:aG)(ihE:Lh d.e)(ihF:∀f,f∈d.f->Lh f.b):Oi d:=λhr hok=>by
 rw[aG.bm]at hok;obtain⟨hp,he,⟨hf1,hf2⟩,hx,hc⟩:=hok;have hz:=d.fY;have z1:=d.p.bJ;have z2:=d.e.bJ;have z3:=d.c.bJ;have e0:=iN d;rw[hr]at e0;rw[o0]
 by_cases h1:d.k=1
 . rw[if_pos h1]at e0 ⊢;have e1:=e0.symm;rw[Bool.and_eq_true,Bool.and_eq_true]at e1;exact((GT.ky (by decide +kernel) (by decide +kernel)).cons ((Cs d.p e1.2.1 hp).1.append ((GT.sg (by decide +kernel)).cons (ihE e1.2.2 he).1))).mono (by omega)
 rw[if_neg h1]at e0 ⊢
 by_cases h5:d.k=5
 . rw[if_pos h5]at e0;rw[if_neg (by omega),if_neg (by omega),if_neg (by omega),if_pos h5];have e1:=e0.symm;rw[Bool.and_eq_true]at e1;exact(ihE e1.2 he).1.mono (by omega)
 rw[if_neg h5]at e0
 by_cases h2:d.k=2
 . rw[if_pos h2]at e0 ⊢;have e1:=e0.symm;rw[Bool.and_eq_true,mR]at e1;rw[yI];have:GT (bj (λb f=>eg (if b=true then[102,117,110]else[97,110,100])::QG f) true d.f) (100*jf d.f):=by
    rw[<- AS,<- eN];refine GT.list (λf hf b=> ?_) true;have hfo:=(Fn.bm f).1 (hf2 f hf);have hfr:=bG e1.1 hf;rw[tG,Bool.and_eq_true,Bool.and_eq_true,Bool.and_eq_true,cJ]at hfr;have hfz:=f.fY;have hbz:=f.b.bJ;have hlen:=Nat.div_add_mod f.s.length 8;have hmod:=Nat.mod_lt f.s.length (show 0<8 by omega);have hps:GT (f.p.flatMap aS) (100*bB f.p):=by
     rw[<- eI aS f.p true,<- mS,<- eN];exact GT.list (λa ha b=>(Cs a (bG hfr.2.2.1 ha) (hfo.2.1.2 a ha)).2.1.mono (by omega)) true
    rw[Cn];exact((GT.ky (by cases b<;>decide +kernel) (by cases b<;>decide +kernel)).cons ((GT.wd (.inl rfl) hfr.1 hfo.1).cons (hps.append ((GT.sg (by decide +kernel)).cons (ihF f hf hfr.2.2.2 hfo.2.2).1)))).mono (by omega)
   exact this.mono (by omega)
 rw[if_neg h2]at e0 ⊢
 by_cases h3:d.k=3
 . rw[if_pos h3]at e0 ⊢;have e1:iv d.x=true:=by
    have e1:=e0.symm;unfold iv;simp only[Bool.and_eq_true]at e1 ⊢;exact⟨e1.1,e1.2.1,e1.2.2.1,e1.2.2.2.1⟩
   exact(Oh d.x e1 hx).mono (by omega)
 rw[if_neg h3]at e0 ⊢
 by_cases h4:d.k=4
 . rw[if_pos h4]at e0 ⊢;have e1:=e0.symm;rw[Bool.and_eq_true]at e1;exact((GT.ky (by decide +kernel) (by decide +kernel)).cons (Lg d.c e1.1 hc)).mono (by omega)
 rw[if_neg h4]at e0;cases e0
theorem TZ (d:aG):Oi d:=aG.ind (p:=Lh) (q:=Oi) Oj (λd h1 h2=>Ok d h1 h2) d
theorem yO (l:List aG)(hr:de l=true)(hok:∀d,d∈l->d.ok):GT (eD l) (100*ek l):=by
 rw[fB]at hr;unfold eD;rw[<- eI (λd=>eM d++[cN [59]]) l true,<- qk,<- eN];exact GT.list (λa ha b=>((TZ a (bG hr ha) (hok a ha)).append (GT.sg (by decide +kernel))).mono (by have:=a.bJ;omega)) true
section
variable {nx0 nx:Nat}{H0 H:T OB}{R:Go.Ev.Out->T OB->Nat->Prop}
def qP:List Tok->List UInt8
 | []=>[]
 | [t]=>cE t
 | t::ts=>cE t++32::qP ts
theorem mz {t:Tok}{ts:List Tok}(h:ts≠[]):qP (t::ts)=cE t++32::qP ts:=by
 cases ts with
 | nil=>exact absurd rfl h
 | cons a l=>rfl
theorem Ol (ts:List Tok):(qP ts).length<=tw ts:=by
 induction ts with
 | nil=>simp[qP,tw]
 | cons t ts ih=>
   cases ts with
   | nil=>simp[qP,tw]
   | cons u ts=>rw[mz (by simp),List.length_append,List.length_cons,tw];omega
theorem Li (n:Int):vB n≠[]:=by
 intro h;have:=(tQ n.natAbs n.natAbs [] (Nat.lt_of_lt_of_le (Nat.lt_pow_self (by omega)) (Nat.pow_le_pow_right (by omega) (by omega)))).2;unfold vB at h;split at h
 . cases h
 . rw[h]at this;simp at this
theorem Fw {t:Tok}(h:m7 t):cE t≠[]:=by
 unfold cE;obtain⟨h1,h2,_,_⟩:=h;split
 . exact Li _
 . split
   . simp[quote]
   . rename_i h3 h4;intro hs;unfold aV at h1;rw[if_neg h2,if_neg h3,if_neg h4]at h1;split at h1
     . rw[hs]at h1;have:bC.contains ([]:List UInt8)=false:=by decide +kernel
       rw[this,Bool.and_false]at h1;cases h1
     . split at h1
       . rw[hs]at h1;cases h1
       . split at h1
         . rw[hs]at h1;cases h1
         . cases h1
theorem T0 {ts:List Tok}(hg:∀t,t∈ts->m7 t):∀{out:List UInt8},out≠[]->ts≠[]->pr out ts=out++32::qP ts:=by
 induction ts with
 | nil=>intro out _ h;exact absurd rfl h
 | cons t ts ih=>
   intro out ho _;rw[pr,if_neg ho];cases ts with
   | nil=>simp[pr,qP]
   | cons u ts=>
     rw[ih (λx hx=>hg x (by simp[hx])) (by simp) (by simp),mz (t:=t) (ts:=u::ts) (by simp)];simp
theorem T1 {ts:List Tok}(hg:∀t,t∈ts->m7 t):pr [] ts=qP ts:=by
 cases ts with
 | nil=>rfl
 | cons t ts=>
   rw[pr,if_pos rfl,List.nil_append];cases ts with
   | nil=>rfl
   | cons u ts=>rw[T0 (λx hx=>hg x (by simp[hx])) (Fw (hg t (by simp))) (by simp),mz (t:=t) (ts:=u::ts) (by simp)]
theorem YG {n:Nat}(h:n<=1048576):br P 9 1 n=true:=by
 have:br P 9 1 n=(Nat.ble n 1048576&&true):=by kernel_rfl
 rw[this,Nat.ble_eq_true_of_le h];rfl
theorem YH (a:ByteArray):Instr.fill (λi=>some (i*1,1)) (bH [Value.string ⟨⟨[]⟩⟩] (1*1)) [(0,.string a)]=some ⟨[.string a]⟩:=by kernel_rfl
end
section
variable {nx0 nx nx' bp k:Nat}{H0 H H':T OB}{F A B G G':List Bx}{s:Bx}{R:Go.Ev.Out->T OB->Nat->Prop}{b:Nat}{l:List Value}{e t:TypeId}{L:List Tok}
theorem Fy (w:List UInt8):qX false 1 [au w]:=λv hv=>by
 rw[List.mem_singleton]at hv;subst hv;exact⟨rfl,rfl,rfl,rfl⟩
theorem Hq.yP (w:List UInt8){kt:Value->Go.Ev.T OB->Nat->Q}(h:Hp nx0 H0 (s::F) H nx)(hk:∀b H' nx',Hp nx0 H0 (s::(b,[au w],9)::F) H' nx'->aF P pl X0 (kt (j5 b 1 1) H' nx') nx0 H0 R):aF P pl X0 (aR (aJ P H nx 46 1 (some [(0,au w)])) kt) nx0 H0 R:=
 Hq.row s_ mX Na rfl (YH _) h hk
theorem Hq.W6 (A:List Bx){l:List (List UInt8)}{w:List UInt8}{sl:Value}{kt:Value->Go.Ev.T OB->Nat->Q}(hl:l.length<=1000000)(hG:Gw false 1 9 (l.map au) sl G)(h:Hp nx0 H0 (s::(b,[au w],9)::(A++(G++B))) H nx)
 (hk:∀sl' G' H' nx',Gw false 1 9 ((l++[w]).map au) sl' G'->Hp nx0 H0 (s::(A++(G'++B))) H' nx'->aF P pl X0 (kt sl' H' nx') nx0 H0 R):aF P pl X0 (aR (cO P H nx [46,46] (some [sl,j5 b 1 1])) kt) nx0 H0 R:=
 Hq.add A (v:=au w) s_ mX (YG (by rw[List.length_map];omega)) (by rw[List.length_map];omega) (Fy w) hG h λsl' G' H' nx' hG' h'=>hk sl' G' H' nx' (by rw[List.map_append];exact hG') h'
theorem Gw.YI {l:List (List UInt8)}{sl:Value}(hG:Gw false 1 9 (l.map au) sl G):dA 1 46 sl (ml l) G:=
 dA.gw s_ mX nm rfl Yj hG (km.id λv hv=>by obtain⟨x,_,rfl⟩:=List.mem_map.1 hv;exact iO.au _) (λu hu=>by obtain⟨x,_,rfl⟩:=List.mem_map.1 hu;rfl) id
theorem Gw.W7 (w:List UInt8):Gw false 1 9 ([w].map au) (j5 b 1 1) [(b,[au w],9)]:=Gw.one (vs:=[au w]) (Fy w) rfl (by decide)
theorem aG.T2 {vs:List (List UInt8)}{w:List UInt8}{cl:List cS}{sv sc:Value}(hv:Gw false 1 9 (vs.map au) sv G)(hc:Gw true 2 52 (cl.map cS.v) sc G'):
 iO 1 tL (.agg ⟨[i64 3,i64 0,i64 0,au [],aw,i64 0,i64 0,au [],aw,aw,aw,aw,sv,au w,sc,au [],aw]⟩) (Ck ⟨vs,w,cl⟩) (G++G'):=by
 show iO 1 tL _ (aG.v _) _;rw[aG.aW];have:=fZ.cons (p:=(4,39)) (cs:=[i64 3,i64 0,i64 0,au [],aw,i64 0,i64 0,au [],aw,aw,aw,aw,sv,au w,sc,au [],aw]) rfl (mu (n:=1)) (fZ.cons (p:=(8,42)) rfl AH (fZ.cons (p:=(9,39)) rfl mu (fZ.cons (p:=(10,23)) rfl vr (fZ.cons (p:=(11,45)) rfl AI (fZ.cons (p:=(12,46)) rfl hv.YI (fZ.cons (p:=(14,47)) rfl hc.Yn (fZ.cons (p:=(16,50)) rfl AL fZ.nil)))))));simp only[List.append_nil,List.nil_append]at this;exact iO.of this
theorem QK (hL:L.length<=100000){vs:List (List UInt8)}{w:List UInt8}{sv:Value}(hv:Gw false 1 9 (vs.map au) sv G'):∀(m:Nat),(∀j,j<m->bn 60 L cS.v (ps L j).iH)->∀(l:List cS) (k:Nat) (sl:Value) (G:List Bx) (o:kn Data) (z:List Value) (x0 x1 nx:Nat) (H:Go.Ev.T OB),l.length+m<=90010->Gw true 2 52 (l.map cS.v) sl G->z.length=17->
 bd ((ps L m).iQ l k) (λl k=>yes ⟨vs,w,l⟩ k)=some o->Hp nx0 H0 (cQ bp L k::(x1,[sv,au w,sl],49)::(x0,z,54)::(G'++(G++F))) H nx->
 aF P pl X0 (.jump (tv (ptr bp) (ptr x0) (ptr x1) H nx)) nx0 H0 (End nx0 H0 bp L F Ck o)
 | 0,_,l,k,sl,G,o,z,x0,x1,nx,H,hm,hG,hz,ho,h=>by cases ho
 | m+1,hp,l,k,sl,G,o,z,x0,x1,nx,H,hm,hG,hz,ho,h=>by
   have ho:bd (ir L (ps L m) l k) (λl k=>yes ⟨vs,w,l⟩ k)=some o:=ho;unfold ir at ho;refine Wq.jmp (Sm ..) (λ_=>rfl) ?_;refine Sq.take hL h (λhi H1 av h1=> ?_) (λhi H1 av h1=> ?_)
   . rw[if_pos hi,jl]at ho;simp only[ab,ah (off:=2) (u:=sl) (h1.at_ 1 rfl) BL rfl];refine Sq.call (hp m (Nat.lt_succ_self m)) rfl h1 ho λc k' H2 nx2 _ ho2 h2=> ?_;simp only[ab,ah (off:=2) (u:=sl) (h2.at_ 1 rfl) BL rfl,bf];refine Hq.Fg c.cs c.len h2 λx H3 nx3 h3=> ?_;simp only[ab,ah (off:=2) (u:=sl) (h3.at_ 2 rfl) BL rfl,bf];refine Hq.Wp (_::_::G') (x:=c) (by omega) hG h3 λsl' G1 H4 nx4 hG1 h4=> ?_;refine Hq.put [_] h4 PH (by rcases hG1.2 with⟨_,rfl,_⟩ | ⟨b,c,rfl,_⟩<;>rfl) (fL hG1) (by simp) rfl λH5 h5=> ?_;exact QK hL hv m (λj hj=>hp j (by omega)) (l++[c]) k' sl' G1 o z x0 x1 nx4 H5 (by rw[List.length_append];simp;omega) hG1 hz ho2 h5
   . rw[if_neg (by rw[hi];simp),fy]at ho;have hb:a9 P 54 (some [(0,i64 3),(4,.agg ⟨[sv,au w,sl]⟩)])=some (.agg ⟨[i64 3,i64 0,i64 0,au [],aw,i64 0,i64 0,au [],aw,aw,aw,aw,sv,au w,sl,au [],aw]⟩):=NU ..;simp only[ab,Wx (h1.at_ 1 rfl) rfl,hb];have h5:Hp nx0 H0 (cQ bp L k::(x0,z,54)::((G'++G)++F)) H1 av:=by
      rw[List.append_assoc];exact(Hp.mv [_] h1).sub (by simp)
     exact Hq.fin h5 fJ k_ qN hz rfl (by simp[fL hG,fL hv]) (aG.T2 hv hG) (by omega) λH9 nx9 h9=>End.ret ho rfl h9
theorem Lj (hL:L.length<=100000){n:Nat}(hn:n<=90000)(hp:∀j,j<=n->bn 60 L cS.v (ps L j).iH){vs:List (List UInt8)}{sv:Value}{z:List Value}{x0 x1:Nat}{o:kn Data}(hv:Gw false 1 9 (vs.map au) sv G')(hz:z.length=17)
 (ho:bY L 3 k (λt k=>aQ L [61] k λk=>bd ((ps L n).iH k) λc k=>bd (ir L (ps L n) [c] k) λl k=>yes (Data.mk vs t.s l) k)=some o) (h:Hp nx0 H0 (cQ bp L k::(x1,[sv,au [],aw],49)::(x0,z,54)::(G'++F)) H nx):
 aF P pl X0 (aI P pl (xG (ptr bp) (ptr x0) (ptr x1) H nx)) nx0 H0 (End nx0 H0 bp L F Ck o):=by
 rw[Jt];refine Sq.word (by decide) hL h ho λH1 av _ ho h1=> ?_;simp only[ab];refine Hq.put [_] h1 mX rfl rfl (by simp) rfl λH2 h2=> ?_;refine Sq.lO hL h2 ho λH3 nx3 _ ho h3=> ?_;refine Sq.call (hp n (Nat.le_refl n)) rfl h3 ho λc k' H4 nx4 _ ho h4=> ?_;refine Hq.Fg c.cs c.len h4 λx H5 nx5 h5=> ?_;refine Hq.put [_,_] h5 PH rfl rfl (by simp) rfl λH6 h6=> ?_;have h7:Hp nx0 H0 (cQ bp L k'::(x1,[sv,au (tk L k).s,j5 x 1 1],49)::(x0,z,54)::(G'++([(x,c.cs,52)]++F))) H6 nx5:=h6.perm (List.Perm.cons _ ((List.Perm.swap _ _ _).trans (List.Perm.cons _ ((List.Perm.swap _ _ _).trans (List.Perm.cons _ List.perm_middle.symm)))));exact QK hL hv (n+1) (λj hj=>hp j (by omega)) [c] k' (j5 x 1 1) [(x,c.cs,52)] o z x0 x1 nx5 H6 (show 1+(n+1)<=90010 by omega) (Gw.q_ c.iI) hz ho h7
theorem QL (hL:L.length<=100000){n:Nat}(hn:n<=90000)(hp:∀j,j<=n->bn 60 L cS.v (ps L j).iH):∀(m:Nat) (l:List (List UInt8)) (k:Nat) (sl:Value) (G:List Bx) (o:kn Data) (z:List Value) (x0 x1 nx:Nat) (H:Go.Ev.T OB),l.length+m<=90010->Gw false 1 9 (l.map au) sl G->z.length=17->
 bd ((ps L m).iq l k) (λl k=>aQ L [41] k λk=>bY L 3 k λt k=>aQ L [61] k λk=>bd ((ps L n).iH k) λc k=>bd (ir L (ps L n) [c] k) λcl k=>yes (Data.mk l t.s cl) k)=some o->Hp nx0 H0 (cQ bp L k::(x1,[sl,au [],aw],49)::(x0,z,54)::(G++F)) H nx->
 aF P pl X0 (.jump (xH (ptr bp) (ptr x0) (ptr x1) H nx)) nx0 H0 (End nx0 H0 bp L F Ck o)
 | 0,l,k,sl,G,o,z,x0,x1,nx,H,hm,hG,hz,ho,h=>by cases ho
 | m+1,l,k,sl,G,o,z,x0,x1,nx,H,hm,hG,hz,ho,h=>by
   have ho:bd (fi L (ps L m) l k) (λl k=>aQ L [41] k λk=>bY L 3 k λt k=>aQ L [61] k λk=>bd ((ps L n).iH k) λc k=>bd (ir L (ps L n) [c] k) λcl k=>yes (Data.mk l t.s cl) k)=some o:=ho;unfold fi at ho;refine Wq.jmp (Sl ..) (λ_=>rfl) ?_;refine Sq.take hL h (λhi H1 av h1=> ?_) (λhi H1 av h1=> ?_)
   . rw[if_pos hi]at ho;have ho:bY L 5 (k+1) (λt k=>bd ((ps L m).iq (l++[t.s]) k) (λl k=>aQ L [41] k λk=>bY L 3 k λt k=>aQ L [61] k λk=>bd ((ps L n).iH k) λc k=>bd (ir L (ps L n) [c] k) λcl k=>yes (Data.mk l t.s cl) k))=some o:=by
      rw[<- ho];unfold bY;split<;>rfl
     simp only[ab,ah (off:=0) (u:=sl) (h1.at_ 1 rfl) wK rfl];refine Sq.word (by decide) hL h1 ho λH2 nx2 _ ho2 h2=> ?_;simp only[ab,ah (off:=0) (u:=sl) (h2.at_ 1 rfl) wK rfl,bf];refine Hq.yP (tk L (k+1)).s h2 λx H3 nx3 h3=> ?_;simp only[ab,ah (off:=0) (u:=sl) (h3.at_ 2 rfl) wK rfl,bf];refine Hq.W6 [_,_] (w:=(tk L (k+1)).s) (by omega) hG h3 λsl' G1 H4 nx4 hG1 h4=> ?_;refine Hq.put [_] h4 IV (by rcases hG1.2 with⟨_,rfl,_⟩ | ⟨b,c,rfl,_⟩<;>rfl) (fL hG1) (by simp) rfl λH5 h5=> ?_;exact QL hL hn hp m (l++[(tk L (k+1)).s]) (k+1+1) sl' G1 o z x0 x1 nx4 H5 (by rw[List.length_append];simp;omega) hG1 hz ho2 h5
   . rw[if_neg (by rw[hi];simp),fy]at ho;simp only[ab];refine Sq.lO hL h1 ho λH2 nx2 _ ho h2=> ?_;have:=Lj hL hn hp hG hz ho h2;rw[Jt]at this;exact this
theorem W8 (hL:L.length<=100000){n:Nat}(hn:n<=90000)(hp:∀j,j<=n->bn 60 L cS.v (ps L j).iH):bn 59 L Ck (ps L (n+1)).data:=by
 intro nx0 nx H0 H bp F k o ho h;have ho:lF L (ps L n) k=some o:=ho;unfold lF nu at ho;rw[Z1];refine Hq.alloc dx h λx0 H1 av h1=> ?_;refine Hq.alloc MR h1 λx1 H2 nx2 h2=> ?_;refine Sq.now h2 λH3 nx3 h3=> ?_;refine Sq.Ng h3 λH4 nx4 h4=> ?_;simp only[ab];refine Wq.ite (λhi=> ?_) (λhi=> ?_)
 . rw[if_pos hi,fy]at ho;simp only[ab,pk h4,fP hL (gQ (show(tk L k).k≠0 by omega))];refine eh h4 λH5 h5=> ?_;refine Hq.yP (tk L k).s h5 λx H6 nx6 h6=> ?_;refine Hq.put [_,_] h6 IV rfl rfl (by simp) rfl λH7 h7=> ?_;exact Wq.jump (λ_=>rfl) (Lj hL hn hp (G':=[(x,[au (tk L k).s],9)]) (Gw.W7 _) rfl ho (Hp.yG h7))
 rw[if_neg hi]at ho;refine Sq.take hL h4 (λhi H5 nx5 h5=> ?_) (λhi H5 nx5 h5=> ?_)
 . rw[if_pos hi]at ho;have ho:bY L 5 (k+1) (λt k=>bd (fi L (ps L n) [t.s] k) λl k=>aQ L [41] k λk=>bY L 3 k λt k=>aQ L [61] k λk=>bd ((ps L n).iH k) λc k=>bd (ir L (ps L n) [c] k) λcl k=>yes (Data.mk l t.s cl) k)=some o:=by
    rw[<- ho];unfold bY;split
    . rw[jl];show bd (fi L (ps L n) [(tk L (k+1)).s] (k+1+1)) _=bd (fi L (ps L n) [(tk L (k+1)).s] (k+1+1)) _;refine congrArg (bd (fi L (ps L n) [(tk L (k+1)).s] (k+1+1))) ?_;funext l k;unfold aQ;split<;>rfl
    . rfl
   simp only[ab];refine Sq.word (by decide) hL h5 ho λH6 nx6 _ ho h6=> ?_;simp only[ab];refine Hq.yP (tk L (k+1)).s h6 λx H7 nx7 h7=> ?_;refine Hq.put [_,_] h7 IV rfl rfl (by simp) rfl λH8 h8=> ?_;exact QL hL hn hp (n+1) [(tk L (k+1)).s] (k+1+1) (j5 x 1 1) [(x,[au (tk L (k+1)).s],9)] o _ x0 x1 nx7 H8 (show 1+(n+1)<=90010 by omega) (Gw.W7 _) rfl ho (Hp.yG h8)
 . rw[if_neg (by rw[hi];simp),fy]at ho;simp only[ab];exact Wq.jump (λ_=>rfl) (Lj hL hn hp (G':=[]) (Gw.nil _ _ _) rfl ho h5)
end
section
variable {L:List Tok}
structure YJ (L:List Tok)(p:PS):Prop where
 exp:bn 47 L aq.v p.exp
 j4:NX L p.j4
 bin:KN L p.bin
 un:bn 83 L aq.v p.un
 atom:bn 93 L aq.v p.atom
 lt:bn 96 L aq.v p.lt
 pat:bn 80 L aB.v p.pat
 cm:bn 92 L aB.v p.cm
 gJ:bn 79 L aO.v p.gJ
 post:bn 90 L aO.v p.post
 iH:bn 60 L cS.v p.iH
 bind:bn 61 L re p.bind
 fn:bn 81 L Fn.v p.fn
 dec:bn 46 L re p.dec
 data:bn 59 L Ck p.data
theorem bn.none {α:Type}{f:FuncId}{vf:α->Value}:bn f L vf (λ_=> .none):=λnx0 nx H0 H bp F k o ho _=>by cases ho
theorem T3 (hL:L.length<=100000):∀n,n<=90001->∀j,j<=n->YJ L (ps L j)
 | 0,_,j,hj=>by
   have:j=0:=by omega
   subst this;exact⟨bn.none,λnx0 nx H0 H bp F G k o kk l sl hl hG ho h=>(by cases ho),λlv nx0 nx H0 H bp F k o hl ho h=>(by cases ho),bn.none,bn.none,bn.none,bn.none,bn.none,bn.none,bn.none,bn.none,bn.none,bn.none,bn.none,bn.none⟩
 | n+1,hn,j,hj=>by
   have ih:=T3 hL n (by omega)
   by_cases hjn:j<=n
   . exact ih j hjn
   . have:j=n+1:=by omega
     subst this;have i:=ih n (Nat.le_refl n);have hn':n<=90000:=by omega
     exact {
      exp:=Yq hL i.exp i.j4 λnx0 nx H0 H bp F k o=>i.bin 0 nx0 nx H0 H bp F k o (by omega)
      j4:=WG hL hn' (λj hj=>(ih j hj).pat) (λj hj=>(ih j hj).exp)
      bin:=WH hL hn' (λj hj=>(ih j hj).bin) i.un
      un:=WI hL hn' (λj hj=>(ih j hj).atom) i.un
      atom:=WK hL hn' (λj hj=>(ih j hj).exp) i.lt
      lt:=WL hL hn' (λj hj=>(ih j hj).exp) (λj hj=>(ih j hj).bind)
      pat:=WC hL i.cm i.pat
      cm:=WE hL hn' (λj hj=>(ih j hj).pat)
      gJ:=Wz hL hn' (λj hj=>(ih j hj).post) i.gJ
      post:=WA hL hn' (λj hj=>(ih j hj).gJ)
      iH:=WB hL i.gJ
      bind:=WQ hL hn' i.pat i.exp (λj hj=>(ih j hj).fn)
      fn:=WM hL hn' (λj hj=>(ih j hj).cm) i.exp
      dec:=Yu hL i.data i.iH i.bind
      data:=W8 hL hn' (λj hj=>(ih j hj).iH) }
theorem YK (hL:L.length<=100000){n:Nat}(hn:n<=90000):bn 26 L ca ((ps L n).cq []):=by
 intro nx0 nx H0 H bp F k o ho h;rw[Zv];exact WV hL n (λj hj=>(T3 hL n (by omega) j (by omega)).dec) (λj hj=>(T3 hL n (by omega) j (by omega)).exp) [] [] k aw [] o nx H (by simp;omega) (Gw.nil _ _ _) km.nil rfl ho h
end
def isTrue (r:Option Rt):Bool:=match r with
 | some ⟨.ret (.bool true),false,_,_⟩=>true
 | _=>false
def Ze:kP:=⟨[],[],[],[],false⟩
theorem G8:S0 iM .leaf (λH=>isTrue (FD P Ze (λ_ _=>none) 1000 (.call 7 [] false none H 11)))=true:=by kernel_rfl
section
variable {nx0 nx nx' bp k:Nat}{H0 H H':T OB}{F A B G G':List Bx}{R:Go.Ev.Out->T OB->Nat->Prop}{b:Nat}{l:List Value}{e t:TypeId}{L:List Tok}
theorem Hq.T4 (A:List Bx){off:Nat}{u:Value}{l':List Value}(h:Hp nx0 H0 (A++(b,l,e)::B) H nx)(hs:aN P t=some 1)(hc:u.cells.toList=[u])(ho:aj u=true)(hn:off<l.length)(hl:l.set off u=l'):
 ∃H',cI P H nx t (some (.pointer (some ⟨b,off,none⟩))) (some u)= .val undef H' nx/\Hp nx0 H0 (A++(b,l',e)::B) H' nx:=by
 obtain⟨o,H',nx',hA,⟨h1,h2,h3⟩,hr⟩:=Hq.put (R:=λo H2 nx2=>o= .ret undef/\nx2=nx/\Hp nx0 H0 (A++(b,l',e)::B) H2 nx) (k:=λv H nx=> .ret ⟨.ret v,false,H,nx⟩) A h hs hc ho hn hl λH' h'=>Wq.nN h'.ag ⟨rfl,rfl,h'⟩;cases he:cI P H nx t (some (.pointer (some ⟨b,off,none⟩))) (some u)with
 | val v H1 av=>
   rw[he]at hr;have hr:some (⟨.ret v,false,H1,av⟩:Rt)=some ⟨o,false,H',nx'⟩:=hr;cases hr;cases h1;cases h2;exact⟨_,rfl,h3⟩
 | _=>rw[he]at hr;cases hr
theorem Om {sz:Nat}{x:Value}(hz:bT P e=some l)(hs:aN P t=some sz)(hl:l.length=sz)(hx:x.cells.toList.length=sz)(hone:x.cells.toList.all aj=true)(h:Hp nx0 H0 F H nx):
 ∃H',Hp nx0 H0 F H' (nx+1+1)/\∀k:Go.Ev.T OB->Nat->Q,(aR (cD P H nx e) λp H nx=>cV P H nx t (some p) x k)=k H' (nx+1+1):=by
 refine⟨Ev.set (Ev.set H (Ev.bits nx) (some (dq l e))) (Ev.bits nx) (some .dead),h.cc ((((h.ag.set h.ag.1 _).succ).set h.ag.1 _).succ) (by omega) λb l e hb hi=>(hi.other (by omega) _).other (by omega) _,λk=> ?_⟩;rw[kW hz];have hg:(Ev.set H (Ev.bits nx) (some (dq l e))).get (Ev.bits nx)=some (dq l e):=by rw[Ev.get_at,if_pos rfl]
 show nB ((Ev.set H (Ev.bits nx) (some (dq l e))).get (Ev.bits nx)) (λn _ _=>af (aN P t) (λs=>bif Nat.beq 0 0&&(Nat.beq n s&&(Nat.beq x.cells.toList.length s&&x.cells.toList.all aj))then
  dp (Ev.bits nx) (Ev.set H (Ev.bits nx) (some (dq l e))) (some .dead) λH=>Ev.bo (Nat.succ (nx+1)) λn=>k H n else .bad) .bad)=_
 rw[hg];show af (aN P t) (λs=>bif Nat.beq 0 0&&(Nat.beq l.length s&&(Nat.beq x.cells.toList.length s&&x.cells.toList.all aj))then
  dp (Ev.bits nx) (Ev.set H (Ev.bits nx) (some (dq l e))) (some .dead) λH=>Ev.bo (Nat.succ (nx+1)) λn=>k H n else .bad) .bad=_
 rw[hs,ax,hl,hx,hone,aL,aP];have e2:Nat.beq sz sz=true:=Nat.beq_refl sz;rw[e2];rfl
theorem aF.cast {q q':Q}(e:q=q')(h:aF P pl X0 q' nx0 H0 R):aF P pl X0 q nx0 H0 R:=e ▸ h
theorem aF.base {q:Q}{av:Nat}{H1:T OB}(hA:Ag nx0 H0 av H1)(h:aF P pl X0 q av H1 R):aF P pl X0 q nx0 H0 λo H nx=>R o H nx/\Ag av H1 nx H:=by
 obtain⟨o,H',nx',h1,h2,h3⟩:=h;exact⟨o,H',nx',hA.trans h1,⟨h2,h1⟩,h3⟩
theorem aF.mono {q:Q}{R':Go.Ev.Out->T OB->Nat->Prop}(h:aF P pl X0 q nx0 H0 R)(hR:∀o H nx,Ag nx0 H0 nx H->R o H nx->R' o H nx):aF P pl X0 q nx0 H0 R':=by
 obtain⟨o,H',nx',h1,h2,h3⟩:=h;exact⟨o,H',nx',h1,hR _ _ _ h1 h2,h3⟩
theorem Fz {c:Cg}{tm:T Value}{a1 a2 a3:Value}(h:aF P pl X0 (Be P pl c tm .ret H nx) nx0 H0 R):aF P pl X0 (om P pl c tm [(25,[a1,a2,a3])] .ret H nx) nx0 H0 R:=by
 obtain⟨o,H',nx',h1,h2,h3⟩:=h;refine⟨o,H',nx',h1,h2,?_⟩;have e1:Go.Ev.F P pl X0 (.call 25 [a1,a2,a3] true none H nx)=some ⟨.ret (.tuple ⟨[]⟩),false,H,nx⟩:=by
  rw[p5,X_];rfl
 show af (Go.Ev.F P pl X0 (.call 25 [a1,a2,a3] true none H nx)) (λr=>(UW .ret r (om P pl c tm [])).run (Go.Ev.F P pl X0)) none=_;rw[e1];exact h3
theorem W9 (H:T OB)(a:Int):cZ P H .neq 20 true (some (.iface 75 (.agg ⟨[i64 a]⟩))) (some .nilIface)=some (.bool true):=by kernel_rfl
theorem W_ (v:Value):iU P (some (.iface 75 v)) 75 true=some (.tuple ⟨[v,.bool true]⟩):=by kernel_rfl
theorem Xa (H:T OB)(a:Int):ai P H 3 (some (aa (i64 a)))=some (i64 a):=by kernel_rfl
theorem Xb (a:Int):ae P 75 (some (aa (.agg ⟨[i64 a]⟩))) 0=some (aa (i64 a)):=by kernel_rfl
theorem On {c:Cg}{tm:T Value}{x1 x2 x3:Nat}{v1 v2 v3:Value}{a:Int}(hh:Hp nx0 H0 ((x1,[v1],23)::(x2,[v2],3)::(x3,[v3],24)::F) H nx)
 (h:∀H' nx',Hp nx0 H0 ((x1,[aw],23)::(x2,[i64 a],3)::(x3,[i64 80],24)::F) H' nx'->aF P pl X0 (Be P pl c tm .ret H' nx') nx0 H0 R):aF P pl X0 (om P pl c tm [(25,[ptr x1,ptr x2,ptr x3])] (.gv (lg a)) H nx) nx0 H0 R:=by
 obtain⟨H1,h1,e1⟩:=Om (x:= .agg ⟨[i64 a]⟩) MS Vj rfl rfl rfl hh;obtain⟨H2,e2,h2⟩:=Hq.T4 (t:=23) (off:=0) (u:=aw) (l':=[aw]) [] h1 vb rfl rfl (by simp) rfl;obtain⟨H3,e3,h3⟩:=Hq.T4 (t:=3) (off:=0) (u:=i64 a) (l':=[i64 a]) [_] h2 mW rfl rfl (by simp) rfl;obtain⟨H4,e4,h4⟩:=Hq.T4 (t:=24) (off:=0) (u:=i64 80) (l':=[i64 80]) [_,_] h3 Et rfl rfl (by simp) rfl;obtain⟨o,H',nx',g1,g2,g3⟩:=h H4 _ h4;refine⟨o,H',nx',g1,g2,?_⟩;have e12:Go.Ev.F P pl X0 (BO (ptr x1) (ptr x2) (ptr x3) (aa (.agg ⟨[i64 a]⟩)) H1 (nx+1+1))=some ⟨.ret (.tuple ⟨[]⟩),true,H4,nx+1+1⟩:=by
  rw[p5,RJ];show Q.run (Go.Ev.F P pl X0) _=_;simp only[RC,Gt,RF,Xb,Xa,ax,e2,e3,e4,aR,bf,Bool.and_true,rh];rfl
 have e0:Go.Ev.F P pl X0 (.call 25 [ptr x1,ptr x2,ptr x3] true (some (lg a)) H nx)=some ⟨.ret (.tuple ⟨[]⟩),true,H4,nx+1+1⟩:=by
  rw[p5,X9];show Q.run (Go.Ev.F P pl X0) _=_;simp only[RB,RD,RE,RG,W9,W_,ax,sY,rh,Mh,Mi,e1,wh,Bool.not_true,si];exact e12
 show af (Go.Ev.F P pl X0 (.call 25 [ptr x1,ptr x2,ptr x3] true (some (lg a)) H nx)) (λr=>(UW (.gv (lg a)) r (om P pl c tm [])).run (Go.Ev.F P pl X0)) none=_;rw[e0];exact g3
end
end
end Go.Proofs.YthjhonhhbddhkaaDoor
