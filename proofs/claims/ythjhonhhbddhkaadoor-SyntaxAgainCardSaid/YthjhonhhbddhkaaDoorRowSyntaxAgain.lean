/- SyntaxAgain is true of any arguments: the law's row and its card. -/
import Derived.Test.YthjhonhhbddhkaaDoorCards
import Derived.Test.YthjhonhhbddhkaaDoorTie
import Derived.Test.YthjhonhhbddhkaaDoorG10
import Derived.Lay
import Derived.Deep.DeepHandedRow
import Derived.Deep.DeepWitnessRowRef
namespace Go.Proofs.YthjhonhhbddhkaaDoor
open Go.Ev Go.ChangeShapes Go.WideShapes Go.ChangeAt Go.RowKit
open Go.ChangeMaps (open_string shut_string)
set_option linter.unusedVariables false
theorem own:ownKnob Tryd.prog.godebug=none:=by kernel_rfl
theorem laidOut:laidOutB Tryd.prog=true:=by kernel_rfl
set_option maxRecDepth 100000 in
theorem Md (H:Type)(enc:TypeId×Value->H)(W:World)(base:Nat)(args:Array Value)(ds gs:List (DataW H))(before:List MemPlace)
 (hval:∀(j:Nat) t v,Tryd.f4.params[j]? = some t->args[j]? = some v->Value.okWide Tryd.prog W .any base t v)
 (hW:DataW.Whole enc Tryd.prog Tryd.f4.params.toList Rows.syntaxAgainSpec.vars false W args.toList ds gs before) (hL:laidMetH Tryd.prog Rows.syntaxAgainRow.laid W) (hsh:W.ShapedOpen Tryd.prog)
 (lX:(DataW.weightsEach Tryd.prog (Tryd.f4.params.toList++(OpenSpec.ofChange Rows.syntaxAgainSpec).bare.plain.varTypes Tryd.prog) (ds++gs)).all (· <= reachBytes)=true):
 Calls Tryd.prog 4 args W λe W'=>∃v,e= .returned v/\Rows.syntaxAgainSpec.post enc Tryd.prog Tryd.f4 false true false false W args v W':=by
 have hW':=hW;obtain⟨p,q,hA0,hV,rfl,hfz,hnd⟩:=hW;have hA:DataW.TrodAll enc Tryd.prog W 0 (λ_=>true) true Tryd.f4.params.toList args.toList ds p:=hA0;rw[Tryd.params4]at hA hval lX;obtain⟨v0,vs0,d0,ds0,p0,q0,hargs,rfl,rfl,h0,r0⟩:=trodAll_cons hA;obtain⟨rfl,rfl,rfl⟩:=trodAll_nil r0;obtain rfl:args=#[v0]:=by cases args;simp_all
 obtain⟨rfl,rfl⟩:=trodVars_none hV;clear hA0;obtain⟨s0,rfl,hd0,hp0,hs0⟩:=open_string Tryd.underlying9 (hval 0 9 v0 rfl rfl) h0;have hlen0:s0.data.toList.length<dQ:=Nat.lt_of_le_of_lt (sized_string lX (j:=0) (t:=9) (bytes:=s0.data.toList) rfl (by rw[hd0];rfl)) (by decide);refine(Uc (args:=[au s0.data.toList]) (args':=[.string s0]) (OD hL hsh) (Mc _ hlen0) (.cons (.flat _ rfl) .nil)).mono λe W' ⟨he,hb⟩=> ?_;subst he;have hlt0:∀x∈p0,x.block<W.heap.size:=λx hx=>hW'.lt x (by simp[hx]);exact⟨_,rfl,_,_,_,[],_,[],hW',trodAll_mk1 (shut_bool Tryd.underlying4 _),(trodAll_cons_mk (Below.trod laidOut (by kernel_rfl) (of_decide_eq_true (by kernel_rfl)) h0 hb hlt0) trodAll_mk0),rfl,hb.frame _,λh=>by cases h⟩
noncomputable abbrev qp (os:Os):World:=World.laidAll Tryd.prog os Rows.syntaxAgainRow.laid
theorem Me (os:Os)(args:Array Value):laidMet Tryd.prog Rows.syntaxAgainRow.laid ((qp os).forCall (λ_ _=>0) ⟨#[],args,[]⟩).memory:=
 laidMet_laidAll args (by kernel_rfl) (by kernel_rfl)
theorem reads (os:Os){H:Type}(enc:TypeId×Value->H):∃places,DataW.whole enc Tryd.prog ((qp os).forCall (λ_ _=>0) ⟨#[],#[.string ⟨⟨[]⟩⟩],[]⟩).memory Tryd.f4.params.toList Rows.syntaxAgainSpec.vars false #[Value.string ⟨⟨[]⟩⟩].toList 8=some ([.lit (.string [])],[],places):=
 ⟨[],by kernel_rfl⟩
set_option maxRecDepth 100000 in
theorem lifted (os:Os)(started:os.Started)(H:Type)(enc:TypeId×Value->H)(F:Stop.Interp):
 ReturnsInHanded {} Tryd.checked os 4 .any ((OpenSpec.ofChange Rows.syntaxAgainSpec).preRow enc Tryd.prog Tryd.f4 Rows.syntaxAgainRow.domain false Rows.syntaxAgainRow.laid) (((OpenSpec.ofChange Rows.syntaxAgainSpec).at F).post enc Tryd.prog Tryd.f4 false true false false):=by
 obtain⟨places,hx⟩:=reads os enc;refine returnsInHanded_of_row (C:=Tryd.checked) (s:=OpenSpec.ofChange Rows.syntaxAgainSpec) own started (by kernel_rfl) Tryd.func4
  (witness_row_atRef (enc:=enc) (C:=Tryd.checked) false (qp os) #[.string ⟨⟨[]⟩⟩] (World.laidAll_os _ _ _) (by kernel_rfl) (by kernel_rfl) (by kernel_rfl)
   (OpenSpec.preRow_of_cond 8 hx (by kernel_rfl) (λk hk=>by cases hk) (by kernel_rfl) (Me os _))) ?_
 intro W base args ds gs before hval hW _ _ lX hL hsh _;exact Md H enc W base args ds gs before hval hW hL hsh lX
theorem said:Rows.SyntaxAgainSaid:=
 OpenClaim.holds_of_cond 4 Tryd.f4 rfl rfl rfl rfl rfl rfl rfl ⟨rfl,rfl,rfl,rfl,rfl⟩ rfl rfl rfl rfl rfl (by kernel_rfl) Tryd.func4 (by kernel_rfl)
  (of_decide_eq_true (by kernel_rfl)) (by unfold Func.isWrapper;first | (rw[if_pos (by decide +kernel)];kernel_rfl) | (rw[if_neg (by decide +kernel)];exact⟨rfl,rfl⟩))
  (λos started H enc _ F=>by rw[OpenClaim.pre_eq_preRow];exact lifted os started H enc F)
theorem plain (f:FuncId)(fn:Func)(hf:Tryd.pinned.checked.prog.funcNamed "kindling/kindlinglaw08.SyntaxAgain" = some f)(hfn:Tryd.pinned.checked.prog.funcs[f]? = some fn):
 true=Tryd.pinned.checked.prog.looks []/\∀(j:Nat) t,fn.params[j]? = some t->Tryd.pinned.checked.prog.wantsStandIn t=false:=by
 obtain rfl:f=4:=Option.some.inj ((show Tryd.prog.funcNamed "kindling/kindlinglaw08.SyntaxAgain" = some 4 by kernel_rfl).symm.trans hf) |>.symm
 obtain rfl:fn=Tryd.f4:=(Option.some.inj (Tryd.func4.symm.trans hfn)).symm;refine⟨by kernel_rfl,λj t ht=> ?_⟩;rw[Tryd.params4]at ht;obtain rfl:t=9:=by simpa using Array.mem_of_getElem? ht
 exact(show Tryd.prog.wantsStandIn 9=false by kernel_rfl)
theorem syntaxAgain_card:Rows.SyntaxAgainCardSaid:=
 Claim7.holds_tied_plain_at .later [] _ _ _ _ said (λ_ h=>by cases h) (by kernel_rfl) (λ_ h=>by cases h) syntaxAgain_row_tie rfl ⟨rfl,rfl⟩ (by kernel_rfl) rfl plain (by kernel_rfl)
end Go.Proofs.YthjhonhhbddhkaaDoor
