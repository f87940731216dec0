/- SyntaxReads is true of any arguments: the law's row and its card. -/
import Derived.Test.YthjhonhhbddhkaaGreatDoorCards
import Derived.Test.YthjhonhhbddhkaaGreatDoorTie
import Derived.Test.YthjhonhhbddhkaaGreatDoorG11
import Derived.Lay
import Derived.Deep.DeepHandedRow
import Derived.Deep.DeepWitnessRowRef
namespace Go.Proofs.YthjhonhhbddhkaaGreatDoor
open Go.Ev Go.ChangeShapes Go.WideShapes Go.ChangeAt Go.RowKit
open Go.ChangeMaps (open_string shut_string)
set_option linter.unusedVariables false
theorem own:ownKnob Tryz.prog.godebug=none:=by kernel_rfl
theorem laidOut:laidOutB Tryz.prog=true:=by kernel_rfl
set_option maxRecDepth 100000 in
theorem KB (H:Type)(enc:TypeId×Value->H)(W:World)(base:Nat)(args:Array Value)(ds gs:List (DataW H))(before:List MemPlace)
 (hval:∀(j:Nat) t v,Tryz.f3.params[j]? = some t->args[j]? = some v->Value.okWide Tryz.prog W .any base t v)
 (hW:DataW.Whole enc Tryz.prog Tryz.f3.params.toList Rows.syntaxReadsSpec.vars false W args.toList ds gs before) (hL:laidMetH Tryz.prog Rows.syntaxReadsRow.laid W) (hsh:W.ShapedOpen Tryz.prog)
 (kB:(DataW.weightsEach Tryz.prog (Tryz.f3.params.toList++(OpenSpec.ofChange Rows.syntaxReadsSpec).bare.plain.varTypes Tryz.prog) (ds++gs)).all (· <= reachBytes)=true):
 Calls Tryz.prog 3 args W λe W'=>∃v,e= .returned v/\Rows.syntaxReadsSpec.post enc Tryz.prog Tryz.f3 false true false false W args v W':=by
 have hW':=hW;obtain⟨p,q,hA0,hV,rfl,hfz,hnd⟩:=hW;have hA:DataW.TrodAll enc Tryz.prog W 0 (λ_=>true) true Tryz.f3.params.toList args.toList ds p:=hA0;rw[Tryz.params3]at hA hval kB;obtain⟨v0,vs0,d0,ds0,p0,q0,hargs,rfl,rfl,h0,r0⟩:=trodAll_cons hA;obtain⟨rfl,rfl,rfl⟩:=trodAll_nil r0;obtain rfl:args=#[v0]:=by cases args;simp_all
 obtain⟨rfl,rfl⟩:=trodVars_none hV;clear hA0;obtain⟨s,rfl,hd0,hp0,hs⟩:=open_string Tryz.underlying9 (hval 0 9 v0 rfl rfl) h0;have hlen:s.data.toList.length<cX:=Nat.lt_of_le_of_lt (sized_string kB (j:=0) (t:=9) (bytes:=s.data.toList) rfl (by rw[hd0];rfl)) (by decide);refine(SO (args:=[aD s.data.toList]) (args':=[.string s]) (Nr hL hsh) (XS hlen) (.cons (.flat _ rfl) .nil)).mono λe W' ⟨he,hb⟩=> ?_;subst he;have hlt:∀x∈p0,x.block<W.heap.size:=λx hx=>by simpa using hW'.lt x (by simpa using hx)
 exact⟨_,rfl,_,_,_,[],_,[],hW',trodAll_mk1 (shut_bool Tryz.underlying4 _),trodAll_mk1 (Below.trod laidOut (by kernel_rfl) (of_decide_eq_true (by kernel_rfl)) h0 hb hlt),rfl,hb.frame _,λh=>by cases h⟩
noncomputable abbrev oO (os:Os):World:=World.laidAll Tryz.prog os Rows.syntaxReadsRow.laid
theorem KC (os:Os)(args:Array Value):laidMet Tryz.prog Rows.syntaxReadsRow.laid ((oO os).forCall (λ_ _=>0) ⟨#[],args,[]⟩).memory:=
 laidMet_laidAll args (by kernel_rfl) (by kernel_rfl)
theorem reads (os:Os){H:Type}(enc:TypeId×Value->H):∃places,DataW.whole enc Tryz.prog ((oO os).forCall (λ_ _=>0) ⟨#[],#[.string ⟨⟨[]⟩⟩],[]⟩).memory Tryz.f3.params.toList Rows.syntaxReadsSpec.vars false #[Value.string ⟨⟨[]⟩⟩].toList 8=some ([.lit (.string [])],[],places):=
 ⟨[],by kernel_rfl⟩
set_option maxRecDepth 100000 in
theorem lifted (os:Os)(started:os.Started)(H:Type)(enc:TypeId×Value->H)(F:Stop.Interp):
 ReturnsInHanded {} Tryz.checked os 3 .any ((OpenSpec.ofChange Rows.syntaxReadsSpec).preRow enc Tryz.prog Tryz.f3 Rows.syntaxReadsRow.domain false Rows.syntaxReadsRow.laid) (((OpenSpec.ofChange Rows.syntaxReadsSpec).at F).post enc Tryz.prog Tryz.f3 false true false false):=by
 obtain⟨places,hx⟩:=reads os enc;refine returnsInHanded_of_row (C:=Tryz.checked) (s:=OpenSpec.ofChange Rows.syntaxReadsSpec) own started (by kernel_rfl) Tryz.func3
  (witness_row_atRef (enc:=enc) (C:=Tryz.checked) false (oO os) #[.string ⟨⟨[]⟩⟩] (World.laidAll_os _ _ _) (by kernel_rfl) (by kernel_rfl) (by kernel_rfl)
   (OpenSpec.preRow_of_cond 8 hx (by kernel_rfl) (λk hk=>by cases hk) (by kernel_rfl) (KC os _))) ?_
 intro W base args ds gs before hval hW _ _ kB hL hsh _;exact KB H enc W base args ds gs before hval hW hL hsh kB
theorem said:Rows.SyntaxReadsSaid:=
 OpenClaim.holds_of_cond 3 Tryz.f3 rfl rfl rfl rfl rfl rfl rfl ⟨rfl,rfl,rfl,rfl,rfl⟩ rfl rfl rfl rfl rfl (by kernel_rfl) Tryz.func3 (by kernel_rfl)
  (of_decide_eq_true (by kernel_rfl)) (by unfold Func.isWrapper;first | (rw[if_pos (by decide +kernel)];kernel_rfl) | (rw[if_neg (by decide +kernel)];exact⟨rfl,rfl⟩))
  (λos started H enc _ F=>by rw[OpenClaim.pre_eq_preRow];exact lifted os started H enc F)
theorem plain (f:FuncId)(fn:Func)(hf:Tryz.pinned.checked.prog.funcNamed "kindling/kindlinglaw08.SyntaxReads" = some f)(hfn:Tryz.pinned.checked.prog.funcs[f]? = some fn):
 true=Tryz.pinned.checked.prog.looks []/\∀(j:Nat) t,fn.params[j]? = some t->Tryz.pinned.checked.prog.wantsStandIn t=false:=by
 obtain rfl:f=3:=Option.some.inj ((show Tryz.prog.funcNamed "kindling/kindlinglaw08.SyntaxReads" = some 3 by kernel_rfl).symm.trans hf) |>.symm
 obtain rfl:fn=Tryz.f3:=(Option.some.inj (Tryz.func3.symm.trans hfn)).symm;refine⟨by kernel_rfl,λj t ht=> ?_⟩;rw[Tryz.params3]at ht;obtain rfl:t=9:=by simpa using Array.mem_of_getElem? ht
 exact(show Tryz.prog.wantsStandIn 9=false by kernel_rfl)
theorem syntaxReads_card:Rows.SyntaxReadsCardSaid:=
 Claim7.holds_tied_plain_at .later [] _ _ _ _ said (λ_ h=>by cases h) (by kernel_rfl) (λ_ h=>by cases h) syntaxReads_row_tie rfl ⟨rfl,rfl⟩ (by kernel_rfl) rfl plain (by kernel_rfl)
end Go.Proofs.YthjhonhhbddhkaaGreatDoor
