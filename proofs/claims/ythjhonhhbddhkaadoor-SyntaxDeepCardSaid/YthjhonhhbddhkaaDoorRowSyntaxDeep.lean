/- SyntaxDeep is true of any arguments: the law's row and its card. -/
import Derived.Test.YthjhonhhbddhkaaDoorCards
import Derived.Test.YthjhonhhbddhkaaDoorTie
import Derived.Test.YthjhonhhbddhkaaDoorG7
import Derived.Lay
import Derived.Deep.DeepHandedRow
import Derived.Deep.DeepWitnessRowRef
namespace Go.Proofs.YthjhonhhbddhkaaDoor
open Go.Ev Go.ChangeShapes Go.WideShapes Go.ChangeAt Go.RowKit
open Go.ChangeMaps (open_string shut_string)
set_option linter.unusedVariables false
theorem own:ownKnob Tryd.prog.godebug=none:=by kernel_rfl
theorem laidOut:laidOutB Tryd.prog=true:=by kernel_rfl
set_option maxRecDepth 100000 in
theorem EM (H:Type)(enc:TypeId×Value->H)(W:World)(base:Nat)(args:Array Value)(ds gs:List (DataW H))(before:List MemPlace)
 (hval:∀(j:Nat) t v,Tryd.f3.params[j]? = some t->args[j]? = some v->Value.okWide Tryd.prog W .any base t v)
 (hW:DataW.Whole enc Tryd.prog Tryd.f3.params.toList Rows.syntaxDeepSpec.vars false W args.toList ds gs before) (hL:laidMetH Tryd.prog Rows.syntaxDeepRow.laid W) (hsh:W.ShapedOpen Tryd.prog)
 (jA:(DataW.weightsEach Tryd.prog (Tryd.f3.params.toList++(OpenSpec.ofChange Rows.syntaxDeepSpec).bare.plain.varTypes Tryd.prog) (ds++gs)).all (· <= reachBytes)=true):
 Calls Tryd.prog 3 args W λe W'=>∃v,e= .returned v/\Rows.syntaxDeepSpec.post enc Tryd.prog Tryd.f3 false true false false W args v W':=by
 have hW':=hW;obtain⟨p,q,hA0,hV,rfl,hfz,hnd⟩:=hW;have hA:DataW.TrodAll enc Tryd.prog W 0 (λ_=>true) true Tryd.f3.params.toList args.toList ds p:=hA0;rw[Tryd.params3]at hA hval jA;obtain⟨v0,vs0,d0,ds0,p0,q0,hargs,rfl,rfl,h0,r0⟩:=trodAll_cons hA;obtain⟨v1,vs1,d1,ds1,p1,q1,rfl,rfl,rfl,h1,r1⟩:=trodAll_cons r0;obtain⟨rfl,rfl,rfl⟩:=trodAll_nil r1;obtain rfl:args=#[v0,v1]:=by cases args;simp_all
 obtain⟨rfl,rfl⟩:=trodVars_none hV;clear hA0;have hv0:=hval 0 3 v0 rfl rfl;obtain⟨a0,rfl,rfl,rfl,y0⟩:=open_int Tryd.underlying3 hv0 h0;have hv1:=hval 1 3 v1 rfl rfl;obtain⟨a1,rfl,rfl,rfl,y1⟩:=open_int Tryd.underlying3 hv1 h1;refine(KO (args:=[.int .i64 a0,.int .i64 a1]) (args':=[.int .i64 a0,.int .i64 a1]) (GK hL hsh) (G9 a0  a1 (IG y0) (IG y1)) (.cons (.flat _ rfl) (.cons (.flat _ rfl) .nil))).mono λe W' ⟨he,hb⟩=> ?_;subst he;exact⟨_,rfl,_,_,_,[],_,[],hW',trodAll_mk1 (shut_bool Tryd.underlying4 _),(trodAll_cons_mk (shut_int Tryd.underlying3 y0) (trodAll_cons_mk (shut_int Tryd.underlying3 y1) trodAll_mk0)),rfl,hb.frame _,λh=>by cases h⟩
noncomputable abbrev ma (os:Os):World:=World.laidAll Tryd.prog os Rows.syntaxDeepRow.laid
theorem EN (os:Os)(args:Array Value):laidMet Tryd.prog Rows.syntaxDeepRow.laid ((ma os).forCall (λ_ _=>0) ⟨#[],args,[]⟩).memory:=
 laidMet_laidAll args (by kernel_rfl) (by kernel_rfl)
theorem reads (os:Os){H:Type}(enc:TypeId×Value->H):∃places,DataW.whole enc Tryd.prog ((ma os).forCall (λ_ _=>0) ⟨#[],#[.int .i64 0,.int .i64 0],[]⟩).memory Tryd.f3.params.toList Rows.syntaxDeepSpec.vars false #[Value.int .i64 0,Value.int .i64 0].toList 8=some ([.lit (.int .i64 0),.lit (.int .i64 0)],[],places):=
 ⟨[],by kernel_rfl⟩
set_option maxRecDepth 100000 in
theorem lifted (os:Os)(started:os.Started)(H:Type)(enc:TypeId×Value->H)(F:Stop.Interp):
 ReturnsInHanded {} Tryd.checked os 3 .any ((OpenSpec.ofChange Rows.syntaxDeepSpec).preRow enc Tryd.prog Tryd.f3 Rows.syntaxDeepRow.domain false Rows.syntaxDeepRow.laid) (((OpenSpec.ofChange Rows.syntaxDeepSpec).at F).post enc Tryd.prog Tryd.f3 false true false false):=by
 obtain⟨places,hx⟩:=reads os enc;refine returnsInHanded_of_row (C:=Tryd.checked) (s:=OpenSpec.ofChange Rows.syntaxDeepSpec) own started (by kernel_rfl) Tryd.func3
  (witness_row_atRef (enc:=enc) (C:=Tryd.checked) false (ma os) #[.int .i64 0,.int .i64 0] (World.laidAll_os _ _ _) (by kernel_rfl) (by kernel_rfl) (by kernel_rfl)
   (OpenSpec.preRow_of_cond 8 hx (by kernel_rfl) (λk hk=>by cases hk) (by kernel_rfl) (EN os _))) ?_
 intro W base args ds gs before hval hW _ _ jA hL hsh _;exact EM H enc W base args ds gs before hval hW hL hsh jA
theorem said:Rows.SyntaxDeepSaid:=
 OpenClaim.holds_of_cond 3 Tryd.f3 rfl rfl rfl rfl rfl rfl rfl ⟨rfl,rfl,rfl,rfl,rfl⟩ rfl rfl rfl rfl rfl (by kernel_rfl) Tryd.func3 (by kernel_rfl)
  (of_decide_eq_true (by kernel_rfl)) (by unfold Func.isWrapper;first | (rw[if_pos (by decide +kernel)];kernel_rfl) | (rw[if_neg (by decide +kernel)];exact⟨rfl,rfl⟩))
  (λos started H enc _ F=>by rw[OpenClaim.pre_eq_preRow];exact lifted os started H enc F)
theorem plain (f:FuncId)(fn:Func)(hf:Tryd.pinned.checked.prog.funcNamed "kindling/kindlinglaw08.SyntaxDeep" = some f)(hfn:Tryd.pinned.checked.prog.funcs[f]? = some fn):
 true=Tryd.pinned.checked.prog.looks []/\∀(j:Nat) t,fn.params[j]? = some t->Tryd.pinned.checked.prog.wantsStandIn t=false:=by
 obtain rfl:f=3:=Option.some.inj ((show Tryd.prog.funcNamed "kindling/kindlinglaw08.SyntaxDeep" = some 3 by kernel_rfl).symm.trans hf) |>.symm
 obtain rfl:fn=Tryd.f3:=(Option.some.inj (Tryd.func3.symm.trans hfn)).symm;refine⟨by kernel_rfl,λj t ht=> ?_⟩;rw[Tryd.params3]at ht;have hm:=Array.mem_of_getElem? ht;simp at hm;subst hm;exact(show Tryd.prog.wantsStandIn 3=false by kernel_rfl)
theorem syntaxDeep_card:Rows.SyntaxDeepCardSaid:=
 Claim7.holds_tied_plain_at .later [] _ _ _ _ said (λ_ h=>by cases h) (by kernel_rfl) (λ_ h=>by cases h) syntaxDeep_row_tie rfl ⟨rfl,rfl⟩ (by kernel_rfl) rfl plain (by kernel_rfl)
end Go.Proofs.YthjhonhhbddhkaaDoor
