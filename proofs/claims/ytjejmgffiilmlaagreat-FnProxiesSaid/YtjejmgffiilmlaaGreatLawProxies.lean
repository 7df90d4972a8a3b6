/- The law FnProxies: whatever it is called with, it answers true and leaves what was there as it was. No condition. -/
import Derived.Test.YtjejmgffiilmlaaGreatRows
import Derived.Test.YtjejmgffiilmlaaGreatSProxies
import Derived.Test.YtjejmgffiilmlaaGreatFProxiesb
import Derived.WalkKit
import Derived.ProofKit
import Derived.SizedLaws
set_option linter.unusedVariables false
set_option linter.unusedSimpArgs false
set_option maxRecDepth 100000
namespace Go.Proofs.YtjejmgffiilmlaaGreat.fnProxies
open Go.FG Go.FG.Se
theorem own:ownKnob Tryz.prog.godebug=none:=by kernel_rfl
theorem laidOut:laidOutB Tryz.prog=true:=by kernel_rfl
theorem posB:rows.all (λr=>Nat.blt 0 r.ti.bytes)=true:=by kernel_rfl
theorem claim:∀rh,oq T [48] rh→sp7 (nz T [48] rh)=some (true,⟨[.v false [.b true]],[]⟩):=by intro rh hy;have h0:=hy;obtain⟨ys0,yss0,rfl,⟨ti0,ht0,hk0_0⟩,hf0_0,h1⟩:=Kf h0;obtain rfl:_=ti0:=Option.some.inj ((show T.ty 48=some ⟨false,[.l 5],24⟩by kernel_rfl).symm.trans ht0);obtain⟨y0_0,r0_0,rfl,q0_0,f0_0,hk0_1,hf0_1⟩:=Vs hk0_0 hf0_0;obtain⟨x0_0,rfl,wx0_0⟩:=aqe q0_0 f0_0;obtain rfl:=acy hk0_1;obtain rfl:=NL h1;show some (U7.c x0_0,(⟨[.v false [.b (U7.v x0_0)]],[]⟩:dE))=_;rw[U7.law x0_0 (Lib.Yb (T:=T) rfl posB wx0_0),U7.aqh x0_0 (Lib.Yb (T:=T) rfl posB wx0_0)]
theorem lifted(os:Os)(started:os.Started)(H:Type)(enc:TypeId×Value→H):
    ReturnsInHanded {} Tryz.checked os 7 .any (Rows.fnProxiesSpec.pre6 enc Tryz.prog Tryz.f7 Rows.fnProxiesRow.domain false) (Rows.fnProxiesSpec.post enc Tryz.prog Tryz.f7 false true false false):=by
  refine returnsInHanded_of_change_sized (C:=Tryz.checked) own started (by kernel_rfl) Tryz.func7
    (ChangeSpec.witness6 (enc:=enc) (C:=Tryz.checked) false ⟨#[], #[.slice none 0 0],[]⟩ 8 (by kernel_rfl) (by kernel_rfl) (by kernel_rfl) (by kernel_rfl)) ?_
  intro W base args ds gs before hval hW hcnd fH _;exact Fj (C:=Tryz.checked) (T:=T) hE laidOut (n:=12) ok7 (by kernel_rfl) (by kernel_rfl) Tryz.underlying4 rfl (λds h=>by match ds,h with|[d0],_=>rfl) claim W base args ds gs before hval hW fH trivial
theorem andI{a b:Bool}(ha:a=true)(hb:b=true):(a&&b)=true:=by rw[ha,hb];rfl
set_option maxHeartbeats 4000000 in
theorem closed:joinedFacts Tryz.pinned.checked.prog 7 Tryz.f7 Rows.fnProxiesSpec Rows.fnProxiesRow=true:=by
  unfold joinedFacts;repeat' with_reducible refine andI ?_ ?_
  all_goals as_aux_lemma=>kernel_rfl
theorem over:Rows.fnProxiesRow.holds Tryz.pinned (OpenSpec.ofChange Rows.fnProxiesSpec):=
  OpenClaim.holds_of_wide 7 Tryz.f7 rfl rfl rfl rfl rfl rfl rfl ⟨rfl,rfl,rfl,rfl,rfl⟩ rfl rfl rfl rfl rfl (by kernel_rfl) Tryz.func7 closed
    (of_decide_eq_true (by kernel_rfl)) (by unfold Func.isWrapper;first|(rw[if_pos (by decide+kernel)];kernel_rfl)|(rw[if_neg (by decide+kernel)];exact⟨rfl,rfl⟩))
    (λos started H enc _=>lifted os started H enc)
theorem proved:Rows.FnProxiesSaid:=over
end Go.Proofs.YtjejmgffiilmlaaGreat.fnProxies
namespace Go.Proofs.YtjejmgffiilmlaaGreat
/-- The row, under a short name, for the claim. -/
theorem fnProxies_holds:Rows.FnProxiesSaid:=fnProxies.proved
#print axioms fnProxies_holds
end Go.Proofs.YtjejmgffiilmlaaGreat
