/- The law FnScript: whatever it is called with, it answers true and leaves what was there as it was; the package's variables that the card lists hold what the program's own initialisers lay, as the given tie shows. No other condition. -/
import Derived.Test.YtpcfgiocpohbmaaGreatDoorCards
import Derived.Test.YtpcfgiocpohbmaaGreatDoorTie
import Derived.Test.YtpcfgiocpohbmaaGreatDoorSScript
import Derived.Test.YtpcfgiocpohbmaaGreatDoorFScriptb
import Derived.WalkKit
import Derived.ProofKit
import Derived.OpenShut
import Derived.Deep.DeepHandedRow
import Derived.Lib.LaidTab
import Derived.Stop.LaidErr
set_option linter.unusedVariables false
set_option linter.unusedSimpArgs false
set_option maxRecDepth 100000
namespace Go.Proofs.YtpcfgiocpohbmaaGreatDoor.fnScript
open Go.ChangeShapes Go.WideShapes Go.ChangeAt Go.RowKit
open Go.FG Go.FG.Se
theorem own:ownKnob Tryz.prog.godebug=none:=by kernel_rfl
theorem laidOut:laidOutB Tryz.prog=true:=by kernel_rfl
theorem posB:rows.all (λr=>Nat.blt 0 r.ti.bytes)=true:=by kernel_rfl
def layC:Nat→DataW Unit→List Value
  |0,_=>[]
  |n+1,.agg l=>l.flatMap (layC n)
  |_,.lit (.int k n)=>[Value.int k n]
  |_,_=>[]
def layO(d:DataW Unit):Go.Obj→Go.Obj
  |.cells _ t fr=>.cells (layC 4 d).toArray t fr
  |o=>o
def layE(b:Nat):Go.Obj→Go.Obj
  |.cells _ t fr=>.cells #[.iface 270 (.pointer (some ⟨b,0,none⟩))] t fr
  |o=>o
theorem star: "*" ++ "errors.errorString" = "*errors.errorString" :=by decide
theorem row270(u:TypeId)(h:Tryz.prog.typeName? 3 u=some "*errors.errorString"):u=270:=
  typeName_ptr_named (nm:= "errors.errorString") (by rw[star];kernel_rfl) (by kernel_rfl) (by decide) u (by rw[star];exact h)
theorem known{W:World}(hL:laidMetH Tryz.prog Rows.fnScriptRow.laid W)(kJ:W.ShapedOpen Tryz.prog):T.gp.f W (wP W):=by have h:laidMet Tryz.prog Rows.fnScriptRow.laid W:=hL;have h3:laidMet Tryz.prog (("internal/strconv.uint64pow10",Rows.laid_internal_strconv_uint64pow10)::[("unicode/utf8.acceptRanges",Rows.laid_unicode_utf8_acceptRanges),("strconv.ErrRange",Rows.laid_strconv_ErrRange),("strconv.ErrSyntax",Rows.laid_strconv_ErrSyntax),("unicode/utf8.first",Rows.laid_unicode_utf8_first)]) W:=laidMet.tail (laidMet.tail h);have h5:laidMet Tryz.prog (("strconv.ErrRange",Rows.laid_strconv_ErrRange)::[("strconv.ErrSyntax",Rows.laid_strconv_ErrSyntax),("unicode/utf8.first",Rows.laid_unicode_utf8_first)]) W:=laidMet.tail (laidMet.tail h3);have h6:laidMet Tryz.prog (("strconv.ErrSyntax",Rows.laid_strconv_ErrSyntax)::[("unicode/utf8.first",Rows.laid_unicode_utf8_first)]) W:=laidMet.tail h5;rw[show(Rows.laid_internal_strconv_uint64pow10:DataW Unit)=Go.Lib.tabData .u64 Go.Lib.pow10Tab by kernel_rfl]at h3;have t:=Go.Lib.tabIs_of_head (g:=1) (t:=239) (e:=205) (n:=20) (by kernel_rfl) (by kernel_rfl) Tryz.underlying239 Tryz.underlying205 (by kernel_rfl) (by kernel_rfl) h3;obtain⟨_,_,hr,_⟩:=laid_sentinel h5 (g:=5) (ti:=81) (tp:=270) (te:=272) (ts:=9) (by kernel_rfl) (by kernel_rfl) Tryz.underlying81 row270 Tryz.underlying270 Tryz.underlying272 rfl rfl Tryz.underlying9 (by kernel_rfl) (by kernel_rfl);obtain⟨_,_,hs,_⟩:=laid_sentinel h6 (g:=4) (ti:=81) (tp:=270) (te:=272) (ts:=9) (by kernel_rfl) (by kernel_rfl) Tryz.underlying81 row270 Tryz.underlying270 Tryz.underlying272 rfl rfl Tryz.underlying9 (by kernel_rfl) (by kernel_rfl);obtain⟨m,hm⟩:=Tryz.lays146.s1_3 W kJ;exact⟨⟨⟨wF (hg:=by kernel_rfl) t rfl,wF (hg:=by kernel_rfl) hs ⟨_,_,rfl⟩⟩,wF (hg:=by kernel_rfl) hr ⟨_,_,rfl⟩⟩,K4 hm⟩
abbrev textS:ByteArray:={data:= #[105,110,118,97,108,105,100,32,115,121,110,116,97,120]}
abbrev textR:ByteArray:={data:= #[118,97,108,117,101,32,111,117,116,32,111,102,32,114,97,110,103,101]}
noncomputable def low:Nat:=(World.holding Tryz.prog default ⟨#[], #[],[]⟩).heap.size
theorem claim:∀yss,po T [24] yss→sp4 (ou T [24] yss)=some (true,⟨[.v false [.b true]],[]⟩):=by intro yss hy;have h0:=hy;obtain⟨ys0,yss0,rfl,⟨ti0,ht0,hk0_0⟩,hf0_0,h1⟩:=LU h0;obtain rfl:_=ti0:=Option.some.inj ((show T.ty 24=some ⟨false,[.l 5],24⟩by kernel_rfl).symm.trans ht0);obtain⟨y0_0,r0_0,rfl,q0_0,f0_0,hk0_1,hf0_1⟩:=W2 hk0_0 hf0_0;obtain⟨x0_0,rfl,wx0_0⟩:=ank q0_0 f0_0;obtain rfl:=aeb hk0_1;obtain rfl:=Qc h1;show some (U4.c x0_0,(⟨[.v false [.b (U4.v x0_0)]],[]⟩:iO))=_;rw[U4.law x0_0 (Lib.ZS (T:=T) rfl posB wx0_0),U4.anm x0_0 (Lib.ZS (T:=T) rfl posB wx0_0)]
abbrev ag:Array Value:= #[.slice none 0 0]
/-- A world for the witness: the settled one, in which the listed variables hold what their initialisers lay. -/
noncomputable def laidWorld (os:Os):World:=
  {(World.holding Tryz.prog os ⟨#[.cells #[.string textS] 272,.cells #[.string textR] 272], #[],[]⟩)with heap:=((((((((World.holding Tryz.prog os ⟨#[.cells #[.string textS] 272,.cells #[.string textR] 272], #[],[]⟩).heap.modify 6 (layO Rows.laid_math_bits_deBruijn32tab)).modify 7 (layO Rows.laid_math_bits_deBruijn64tab)).modify 1 (layO Rows.laid_internal_strconv_uint64pow10)).modify 3 (layO Rows.laid_unicode_utf8_acceptRanges)).modify 2 (layO Rows.laid_unicode_utf8_first)).modify 4 (layE low)).modify 5 (layE (low+1)))}
theorem laid_met(os:Os):laidMet Tryz.prog Rows.fnScriptRow.laid ((laidWorld os).forCall (λ_ _=>0) ⟨#[],ag,[]⟩).memory:=
  laidMet_of_run' 8 (by kernel_rfl) (by kernel_rfl)
theorem reads(os:Os){H:Type}(enc:TypeId×Value→H):∃ds places,DataW.whole enc Tryz.prog ((laidWorld os).forCall (λ_ _=>0) ⟨#[],ag,[]⟩).memory Tryz.f4.params.toList Rows.fnScriptSpec.vars false ag.toList 8=some (ds,[],places):=
  by
  have h:(DataW.whole enc Tryz.prog ((laidWorld os).forCall (λ_ _=>0) ⟨#[],ag,[]⟩).memory Tryz.f4.params.toList Rows.fnScriptSpec.vars false ag.toList 8).map (λx=>x.2.1)=some []:=by kernel_rfl
  obtain⟨x,hx,h2⟩:=Option.map_eq_some_iff.1 h;exact⟨x.1,x.2.2,by rw[hx,←h2]⟩
set_option maxHeartbeats 4000000 in
theorem lifted(os:Os)(started:os.Started)(H:Type)(enc:TypeId×Value→H)(F:Stop.Interp):
    ReturnsInHanded {} Tryz.checked os 4 .any ((OpenSpec.ofChange Rows.fnScriptSpec).preRow enc Tryz.prog Tryz.f4 Rows.fnScriptRow.domain false Rows.fnScriptRow.laid) (((OpenSpec.ofChange Rows.fnScriptSpec).at F).post enc Tryz.prog Tryz.f4 false true false false):=by
  obtain⟨ds,places,hx⟩:=reads os enc
  refine returnsInHanded_of_row (C:=Tryz.checked) (s:=OpenSpec.ofChange Rows.fnScriptSpec) own started (by kernel_rfl) Tryz.func4
    (witness_row_at (enc:=enc) (C:=Tryz.checked) false (laidWorld os) ag rfl (by kernel_rfl) (by kernel_rfl) (by kernel_rfl)
      (OpenSpec.preRow_of_cond 8 hx rfl (λk hk=>by cases hk) (by kernel_rfl) (laid_met os))) ?_
  intro W base args ds gs before hval hW _ _ hsz hL kJ _;exact Hf (C:=Tryz.checked) (T:=T) hE laidOut (n:=12) ok4 (by kernel_rfl) (by kernel_rfl) Tryz.underlying4 rfl (λds h=>by match ds,h with|[d0],_=>rfl) claim W base args ds gs before hval hW hsz (known hL kJ)
theorem andI{a b:Bool}(ha:a=true)(hb:b=true):(a&&b)=true:=by rw[ha,hb];rfl
set_option maxHeartbeats 4000000 in
theorem closed:joinedFacts Tryz.pinned.checked.prog 4 Tryz.f4 Rows.fnScriptSpec Rows.fnScriptRow=true:=by
  unfold joinedFacts;repeat' with_reducible refine andI ?_ ?_
  all_goals as_aux_lemma=>kernel_rfl
theorem said:Rows.FnScriptSaid:=
  OpenClaim.holds_of_cond 4 Tryz.f4 rfl rfl rfl rfl rfl rfl rfl ⟨rfl,rfl,rfl,rfl,rfl⟩ rfl rfl rfl rfl rfl (by kernel_rfl) Tryz.func4 closed
    (of_decide_eq_true (by kernel_rfl)) (by unfold Func.isWrapper;first|(rw[if_pos (by decide+kernel)];kernel_rfl)|(rw[if_neg (by decide+kernel)];exact⟨rfl,rfl⟩))
    (λos started H enc _ F=>by rw[OpenClaim.pre_eq_preRow];exact lifted os started H enc F)
theorem plain(f:FuncId)(fn:Func)(hf:Tryz.pinned.checked.prog.funcNamed Rows.fnScriptRow.func=some f)(hfn:Tryz.pinned.checked.prog.funcs[f]? =some fn):
    true=Tryz.pinned.checked.prog.looks []∧∀(j:Nat) t,fn.params[j]? =some t→Tryz.pinned.checked.prog.wantsStandIn t=false:=by
  obtain rfl:f=4:=Option.some.inj ((show Tryz.prog.funcNamed Rows.fnScriptRow.func=some 4 by kernel_rfl).symm.trans hf)|>.symm;obtain rfl:fn=Tryz.f4:=(Option.some.inj (Tryz.func4.symm.trans hfn)).symm;refine⟨by kernel_rfl,λj t ht=> ?_⟩
  rw[Tryz.params4]at ht;have hm:t∈[24]:=by simpa using Array.mem_of_getElem? ht
  have amR:([24].all λu=> !Tryz.prog.wantsStandIn u)=true:=by kernel_rfl
  exact(show Tryz.prog.wantsStandIn t=false by simpa using List.all_eq_true.1 amR t hm)
theorem proved:Rows.FnScriptCardSaid:=
  Claim7.holds_tied_plain_at .later [] _ _ _ _ said (λ_ h=>by cases h) (by kernel_rfl) (λ_ h=>by cases h) fnScript_row_tie rfl ⟨rfl,rfl⟩ (by kernel_rfl) rfl plain (by kernel_rfl)
end Go.Proofs.YtpcfgiocpohbmaaGreatDoor.fnScript
namespace Go.Proofs.YtpcfgiocpohbmaaGreatDoor
/-- The card, under a short name, for the claim. -/
theorem fnScript_holds:Rows.FnScriptCardSaid:=fnScript.proved
#print axioms fnScript_holds
end Go.Proofs.YtpcfgiocpohbmaaGreatDoor
