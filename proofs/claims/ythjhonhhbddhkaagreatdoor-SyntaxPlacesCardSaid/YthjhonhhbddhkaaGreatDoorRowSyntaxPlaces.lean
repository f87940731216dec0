/- SyntaxPlaces is true of any arguments: the law's row and its card. -/
import Derived.Test.YthjhonhhbddhkaaGreatDoorCards
import Derived.Test.YthjhonhhbddhkaaGreatDoorTie
import Derived.Test.YthjhonhhbddhkaaGreatDoorG9
import Derived.Lay
import Derived.Deep.DeepHandedRow
import Derived.Deep.DeepWitnessRowRef
namespace Go.Proofs.YthjhonhhbddhkaaGreatDoor
open Go.Ev Go.ChangeShapes Go.WideShapes Go.ChangeAt Go.RowKit
open Go.ChangeMaps (open_string shut_string)
set_option linter.unusedVariables false
theorem own:ownKnob Tryz.prog.godebug=none:=by kernel_rfl
theorem laidOut:laidOutB Tryz.prog=true:=by kernel_rfl
set_option maxRecDepth 100000 in
theorem E_ (H:Type)(enc:TypeId×Value->H)(W:World)(base:Nat)(args:Array Value)(ds gs:List (DataW H))(before:List MemPlace)
 (hval:∀(j:Nat) t v,Tryz.f8.params[j]? = some t->args[j]? = some v->Value.okWide Tryz.prog W .any base t v)
 (hW:DataW.Whole enc Tryz.prog Tryz.f8.params.toList Rows.syntaxPlacesSpec.vars false W args.toList ds gs before) (hL:laidMetH Tryz.prog Rows.syntaxPlacesRow.laid W) (hsh:W.ShapedOpen Tryz.prog)
 (iV:(DataW.weightsEach Tryz.prog (Tryz.f8.params.toList++(OpenSpec.ofChange Rows.syntaxPlacesSpec).bare.plain.varTypes Tryz.prog) (ds++gs)).all (· <= reachBytes)=true):
 Calls Tryz.prog 8 args W λe W'=>∃v,e= .returned v/\Rows.syntaxPlacesSpec.post enc Tryz.prog Tryz.f8 false true false false W args v W':=by
 have hW':=hW;obtain⟨p,q,hA0,hV,rfl,hfz,hnd⟩:=hW;have hA:DataW.TrodAll enc Tryz.prog W 0 (λ_=>true) true Tryz.f8.params.toList args.toList ds p:=hA0;rw[Tryz.params8]at hA hval iV;obtain⟨v0,vs0,d0,ds0,p0,q0,hargs,rfl,rfl,h0,r0⟩:=trodAll_cons hA;obtain⟨v1,vs1,d1,ds1,p1,q1,rfl,rfl,rfl,h1,r1⟩:=trodAll_cons r0;obtain⟨rfl,rfl,rfl⟩:=trodAll_nil r1;obtain rfl:args=#[v0,v1]:=by cases args;simp_all
 obtain⟨rfl,rfl⟩:=trodVars_none hV;clear hA0;obtain⟨s0,rfl,hd0,hp0,hs0⟩:=open_string Tryz.underlying9 (hval 0 9 v0 rfl rfl) h0;have hlen0:s0.data.toList.length<cY:=Nat.lt_of_le_of_lt (sized_string iV (j:=0) (t:=9) (bytes:=s0.data.toList) rfl (by rw[hd0];rfl)) (by decide);obtain⟨s1,rfl,hd1,hp1,hs1⟩:=open_string Tryz.underlying9 (hval 1 9 v1 rfl rfl) h1;have hlen1:s1.data.toList.length<cY:=Nat.lt_of_le_of_lt (sized_string iV (j:=1) (t:=9) (bytes:=s1.data.toList) rfl (by rw[hd1];rfl)) (by decide);refine(LK (args:=[aE s0.data.toList,aE s1.data.toList]) (args':=[.string s0,.string s1]) (HJ hL hsh) (Qv _  _ hlen0 hlen1) (.cons (.flat _ rfl) (.cons (.flat _ rfl) .nil))).mono λe W' ⟨he,hb⟩=> ?_;subst he;have hlt0:∀x∈p0,x.block<W.heap.size:=λx hx=>hW'.lt x (by simp[hx]);have hlt1:∀x∈p1,x.block<W.heap.size:=λx hx=>hW'.lt x (by simp[hx]);exact⟨_,rfl,_,_,_,[],_,[],hW',trodAll_mk1 (shut_bool Tryz.underlying4 _),(trodAll_cons_mk (Below.trod laidOut (by kernel_rfl) (of_decide_eq_true (by kernel_rfl)) h0 hb hlt0) (trodAll_cons_mk (Below.trod laidOut (by kernel_rfl) (of_decide_eq_true (by kernel_rfl)) h1 hb hlt1) trodAll_mk0)),rfl,hb.frame _,λh=>by cases h⟩
noncomputable abbrev mq (os:Os):World:=World.laidAll Tryz.prog os Rows.syntaxPlacesRow.laid
theorem Fa (os:Os)(args:Array Value):laidMet Tryz.prog Rows.syntaxPlacesRow.laid ((mq os).forCall (λ_ _=>0) ⟨#[],args,[]⟩).memory:=
 laidMet_laidAll args (by kernel_rfl) (by kernel_rfl)
theorem reads (os:Os){H:Type}(enc:TypeId×Value->H):∃places,DataW.whole enc Tryz.prog ((mq os).forCall (λ_ _=>0) ⟨#[],#[.string ⟨⟨[]⟩⟩,.string ⟨⟨[]⟩⟩],[]⟩).memory Tryz.f8.params.toList Rows.syntaxPlacesSpec.vars false #[Value.string ⟨⟨[]⟩⟩,Value.string ⟨⟨[]⟩⟩].toList 8=some ([.lit (.string []),.lit (.string [])],[],places):=
 ⟨[],by kernel_rfl⟩
set_option maxRecDepth 100000 in
theorem lifted (os:Os)(started:os.Started)(H:Type)(enc:TypeId×Value->H)(F:Stop.Interp):
 ReturnsInHanded {} Tryz.checked os 8 .any ((OpenSpec.ofChange Rows.syntaxPlacesSpec).preRow enc Tryz.prog Tryz.f8 Rows.syntaxPlacesRow.domain false Rows.syntaxPlacesRow.laid) (((OpenSpec.ofChange Rows.syntaxPlacesSpec).at F).post enc Tryz.prog Tryz.f8 false true false false):=by
 obtain⟨places,hx⟩:=reads os enc;refine returnsInHanded_of_row (C:=Tryz.checked) (s:=OpenSpec.ofChange Rows.syntaxPlacesSpec) own started (by kernel_rfl) Tryz.func8
  (witness_row_atRef (enc:=enc) (C:=Tryz.checked) false (mq os) #[.string ⟨⟨[]⟩⟩,.string ⟨⟨[]⟩⟩] (World.laidAll_os _ _ _) (by kernel_rfl) (by kernel_rfl) (by kernel_rfl)
   (OpenSpec.preRow_of_cond 8 hx (by kernel_rfl) (λk hk=>by cases hk) (by kernel_rfl) (Fa os _))) ?_
 intro W base args ds gs before hval hW _ _ iV hL hsh _;exact E_ H enc W base args ds gs before hval hW hL hsh iV
theorem said:Rows.SyntaxPlacesSaid:=
 OpenClaim.holds_of_cond 8 Tryz.f8 rfl rfl rfl rfl rfl rfl rfl ⟨rfl,rfl,rfl,rfl,rfl⟩ rfl rfl rfl rfl rfl (by kernel_rfl) Tryz.func8 (by kernel_rfl)
  (of_decide_eq_true (by kernel_rfl)) (by unfold Func.isWrapper;first | (rw[if_pos (by decide +kernel)];kernel_rfl) | (rw[if_neg (by decide +kernel)];exact⟨rfl,rfl⟩))
  (λos started H enc _ F=>by rw[OpenClaim.pre_eq_preRow];exact lifted os started H enc F)
theorem plain (f:FuncId)(fn:Func)(hf:Tryz.pinned.checked.prog.funcNamed "kindling/kindlinglaw08.SyntaxPlaces" = some f)(hfn:Tryz.pinned.checked.prog.funcs[f]? = some fn):
 true=Tryz.pinned.checked.prog.looks []/\∀(j:Nat) t,fn.params[j]? = some t->Tryz.pinned.checked.prog.wantsStandIn t=false:=by
 obtain rfl:f=8:=Option.some.inj ((show Tryz.prog.funcNamed "kindling/kindlinglaw08.SyntaxPlaces" = some 8 by kernel_rfl).symm.trans hf) |>.symm
 obtain rfl:fn=Tryz.f8:=(Option.some.inj (Tryz.func8.symm.trans hfn)).symm;refine⟨by kernel_rfl,λj t ht=> ?_⟩;rw[Tryz.params8]at ht;have hm:=Array.mem_of_getElem? ht;simp at hm;subst hm;exact(show Tryz.prog.wantsStandIn 9=false by kernel_rfl)
theorem syntaxPlaces_card:Rows.SyntaxPlacesCardSaid:=
 Claim7.holds_tied_plain_at .later [] _ _ _ _ said (λ_ h=>by cases h) (by kernel_rfl) (λ_ h=>by cases h) syntaxPlaces_row_tie rfl ⟨rfl,rfl⟩ (by kernel_rfl) rfl plain (by kernel_rfl)
end Go.Proofs.YthjhonhhbddhkaaGreatDoor
