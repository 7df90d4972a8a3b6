/- The law FnFallen: whatever it is called with, it answers true and leaves what was there as it was. No condition. -/
import Derived.Test.YtilcgpcemjeaeaaGreatRows
import Derived.Test.YtilcgpcemjeaeaaGreatSFallen
import Derived.Test.YtilcgpcemjeaeaaGreatFFallenb
import Derived.WalkKit
import Derived.ProofKit
import Derived.SizedLaws
set_option linter.unusedVariables false
set_option linter.unusedSimpArgs false
set_option maxRecDepth 100000
namespace Go.Proofs.YtilcgpcemjeaeaaGreat.fnFallen
open Go.FG Go.FG.Se
theorem own:ownKnob Tryz.prog.godebug=none:=by kernel_rfl
theorem laidOut:laidOutB Tryz.prog=true:=by kernel_rfl
theorem posB:rows.all (λr=>Nat.blt 0 r.ti.bytes)=true:=by kernel_rfl
theorem claim:∀sj,pc T [22] sj→sp3 (oc T [22] sj)=some (true,⟨[.v false [.b true]],[]⟩):=by intro sj hy;have h0:=hy;obtain⟨ys0,yss0,rfl,⟨ti0,ht0,hk0_0⟩,hf0_0,h1⟩:=Mb h0;obtain rfl:_=ti0:=Option.some.inj ((show T.ty 22=some ⟨false,[.l 5],24⟩by kernel_rfl).symm.trans ht0);obtain⟨y0_0,r0_0,rfl,q0_0,f0_0,hk0_1,hf0_1⟩:=Yd hk0_0 hf0_0;obtain⟨x0_0,rfl,wx0_0⟩:=auN q0_0 f0_0;obtain rfl:=afG hk0_1;obtain rfl:=Ql h1;show some (U3.c x0_0,(⟨[.v false [.b (U3.v x0_0)]],[]⟩:dA))=_;rw[U3.law x0_0 (Lib.aa4 (T:=T) rfl posB wx0_0),U3.auQ x0_0 (Lib.aa4 (T:=T) rfl posB wx0_0)]
theorem lifted(os:Os)(started:os.Started)(H:Type)(enc:TypeId×Value→H):
    ReturnsInHanded {} Tryz.checked os 3 .any (Rows.fnFallenSpec.pre6 enc Tryz.prog Tryz.f3 Rows.fnFallenRow.domain false) (Rows.fnFallenSpec.post enc Tryz.prog Tryz.f3 false true false false):=by
  refine returnsInHanded_of_change_sized (C:=Tryz.checked) own started (by kernel_rfl) Tryz.func3
    (ChangeSpec.witness6 (enc:=enc) (C:=Tryz.checked) false ⟨#[], #[.slice none 0 0],[]⟩ 8 (by kernel_rfl) (by kernel_rfl) (by kernel_rfl) (by kernel_rfl)) ?_
  intro W base args ds gs before hval hW hcnd gh _;exact Hm (C:=Tryz.checked) (T:=T) hE laidOut (n:=12) ok3 (by kernel_rfl) (by kernel_rfl) Tryz.underlying4 rfl (λds h=>by match ds,h with|[d0],_=>rfl) claim W base args ds gs before hval hW gh
theorem andI{a b:Bool}(ha:a=true)(hb:b=true):(a&&b)=true:=by rw[ha,hb];rfl
set_option maxHeartbeats 4000000 in
theorem closed:joinedFacts Tryz.pinned.checked.prog 3 Tryz.f3 Rows.fnFallenSpec Rows.fnFallenRow=true:=by
  unfold joinedFacts;repeat' with_reducible refine andI ?_ ?_
  all_goals as_aux_lemma=>kernel_rfl
theorem over:Rows.fnFallenRow.holds Tryz.pinned (OpenSpec.ofChange Rows.fnFallenSpec):=
  OpenClaim.holds_of_wide 3 Tryz.f3 rfl rfl rfl rfl rfl rfl rfl ⟨rfl,rfl,rfl,rfl,rfl⟩ rfl rfl rfl rfl rfl (by kernel_rfl) Tryz.func3 closed
    (of_decide_eq_true (by kernel_rfl)) (by unfold Func.isWrapper;first|(rw[if_pos (by decide+kernel)];kernel_rfl)|(rw[if_neg (by decide+kernel)];exact⟨rfl,rfl⟩))
    (λos started H enc _=>lifted os started H enc)
theorem proved:Rows.FnFallenSaid:=over
end Go.Proofs.YtilcgpcemjeaeaaGreat.fnFallen
namespace Go.Proofs.YtilcgpcemjeaeaaGreat
/-- The row, under a short name, for the claim. -/
theorem fnFallen_holds:Rows.FnFallenSaid:=fnFallen.proved
#print axioms fnFallen_holds
end Go.Proofs.YtilcgpcemjeaeaaGreat
