/- The law FnOnce: whatever it is called with, it answers true and leaves what was there as it was. No condition. -/
import Derived.Test.YtjejmgffiilmlaaGreatRows
import Derived.Test.YtjejmgffiilmlaaGreatSOnce
import Derived.Test.YtjejmgffiilmlaaGreatFOnceb
import Derived.WalkKit
import Derived.ProofKit
import Derived.SizedLaws
set_option linter.unusedVariables false
set_option linter.unusedSimpArgs false
set_option maxRecDepth 100000
namespace Go.Proofs.YtjejmgffiilmlaaGreat.fnOnce
open Go.FG Go.FG.Se
theorem own:ownKnob Tryz.prog.godebug=none:=by kernel_rfl
theorem laidOut:laidOutB Tryz.prog=true:=by kernel_rfl
theorem posB:rows.all (λr=>Nat.blt 0 r.ti.bytes)=true:=by kernel_rfl
theorem claim:∀rq,oD T [48] rq→sp5 (nB T [48] rq)=some (true,⟨[.v false [.b true]],[]⟩):=by intro rq hy;have h0:=hy;obtain⟨ys0,yss0,rfl,⟨ti0,ht0,hk0_0⟩,hf0_0,h1⟩:=Ki h0;obtain rfl:_=ti0:=Option.some.inj ((show T.ty 48=some ⟨false,[.l 5],24⟩by kernel_rfl).symm.trans ht0);obtain⟨y0_0,r0_0,rfl,q0_0,f0_0,hk0_1,hf0_1⟩:=Vm hk0_0 hf0_0;obtain⟨x0_0,rfl,wx0_0⟩:=ao5 q0_0 f0_0;obtain rfl:=abT hk0_1;obtain rfl:=NV h1;show some (U5.c x0_0,(⟨[.v false [.b (U5.v x0_0)]],[]⟩:dM))=_;rw[U5.law x0_0 (Lib.XY (T:=T) rfl posB wx0_0),U5.ao8 x0_0 (Lib.XY (T:=T) rfl posB wx0_0)]
theorem lifted(os:Os)(started:os.Started)(H:Type)(enc:TypeId×Value→H):
    ReturnsInHanded {} Tryz.checked os 5 .any (Rows.fnOnceSpec.pre6 enc Tryz.prog Tryz.f5 Rows.fnOnceRow.domain false) (Rows.fnOnceSpec.post enc Tryz.prog Tryz.f5 false true false false):=by
  refine returnsInHanded_of_change_sized (C:=Tryz.checked) own started (by kernel_rfl) Tryz.func5
    (ChangeSpec.witness6 (enc:=enc) (C:=Tryz.checked) false ⟨#[], #[.slice none 0 0],[]⟩ 8 (by kernel_rfl) (by kernel_rfl) (by kernel_rfl) (by kernel_rfl)) ?_
  intro W base args ds gs before hval hW hcnd fT _;exact Ff (C:=Tryz.checked) (T:=T) hE laidOut (n:=12) ok5 (by kernel_rfl) (by kernel_rfl) Tryz.underlying4 rfl (λds h=>by match ds,h with|[d0],_=>rfl) claim W base args ds gs before hval hW fT
theorem andI{a b:Bool}(ha:a=true)(hb:b=true):(a&&b)=true:=by rw[ha,hb];rfl
set_option maxHeartbeats 4000000 in
theorem closed:joinedFacts Tryz.pinned.checked.prog 5 Tryz.f5 Rows.fnOnceSpec Rows.fnOnceRow=true:=by
  unfold joinedFacts;repeat' with_reducible refine andI ?_ ?_
  all_goals as_aux_lemma=>kernel_rfl
theorem over:Rows.fnOnceRow.holds Tryz.pinned (OpenSpec.ofChange Rows.fnOnceSpec):=
  OpenClaim.holds_of_wide 5 Tryz.f5 rfl rfl rfl rfl rfl rfl rfl ⟨rfl,rfl,rfl,rfl,rfl⟩ rfl rfl rfl rfl rfl (by kernel_rfl) Tryz.func5 closed
    (of_decide_eq_true (by kernel_rfl)) (by unfold Func.isWrapper;first|(rw[if_pos (by decide+kernel)];kernel_rfl)|(rw[if_neg (by decide+kernel)];exact⟨rfl,rfl⟩))
    (λos started H enc _=>lifted os started H enc)
theorem proved:Rows.FnOnceSaid:=over
end Go.Proofs.YtjejmgffiilmlaaGreat.fnOnce
namespace Go.Proofs.YtjejmgffiilmlaaGreat
/-- The row, under a short name, for the claim. -/
theorem fnOnce_holds:Rows.FnOnceSaid:=fnOnce.proved
#print axioms fnOnce_holds
end Go.Proofs.YtjejmgffiilmlaaGreat
