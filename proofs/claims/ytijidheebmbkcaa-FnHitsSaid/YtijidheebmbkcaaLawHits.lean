/- The law FnHits: whatever it is called with, it answers true and leaves what was there as it was. No condition. -/
import Derived.Test.YtijidheebmbkcaaRows
import Derived.Test.YtijidheebmbkcaaSHits
import Derived.Test.YtijidheebmbkcaaFHits
import Derived.WalkKit
import Derived.ProofKit
import Derived.SizedLaws
set_option linter.unusedVariables false
set_option linter.unusedSimpArgs false
set_option maxRecDepth 100000
namespace Go.Proofs.Ytijidheebmbkcaa.fnHits
open Go.FG Go.FG.Se
theorem own:ownKnob Try.prog.godebug=none:=by kernel_rfl
theorem laidOut:laidOutB Try.prog=true:=by kernel_rfl
theorem posB:rows.all (λr=>Nat.blt 0 r.ti.bytes)=true:=by kernel_rfl
theorem claim:∀oE,lX T [22] oE→sp4 (lh T [22] oE)=some (true,⟨[.v false [.b true]],[]⟩):=by intro oE hy;have h0:=hy;obtain⟨ys0,yss0,rfl,⟨ti0,ht0,hk0_0⟩,hf0_0,h1⟩:=Ez h0;obtain rfl:_=ti0:=Option.some.inj ((show T.ty 22=some ⟨false,[.l 5],24⟩by kernel_rfl).symm.trans ht0);obtain⟨y0_0,r0_0,rfl,q0_0,f0_0,hk0_1,hf0_1⟩:=N0 hk0_0 hf0_0;obtain⟨x0_0,rfl,wx0_0⟩:=ady q0_0 f0_0;obtain rfl:=To hk0_1;obtain rfl:=HL h1;show some (U4.c x0_0,(⟨[.v false [.b (U4.v x0_0)]],[]⟩:dp))=_;rw[U4.law x0_0 (Lib.PW (T:=T) rfl posB wx0_0),U4.adA x0_0 (Lib.PW (T:=T) rfl posB wx0_0)]
theorem lifted(os:Os)(started:os.Started)(H:Type)(enc:TypeId×Value→H):
    ReturnsInHanded {} Try.checked os 4 .any (Rows.fnHitsSpec.pre6 enc Try.prog Try.f4 Rows.fnHitsRow.domain false) (Rows.fnHitsSpec.post enc Try.prog Try.f4 false true false false):=by
  refine returnsInHanded_of_change_sized (C:=Try.checked) own started (by kernel_rfl) Try.func4
    (ChangeSpec.witness6 (enc:=enc) (C:=Try.checked) false ⟨#[], #[.slice none 0 0],[]⟩ 8 (by kernel_rfl) (by kernel_rfl) (by kernel_rfl) (by kernel_rfl)) ?_
  intro W base args ds gs before hval hW hcnd eM _;exact AB (C:=Try.checked) (T:=T) hE laidOut (n:=12) ok4 (by kernel_rfl) (by kernel_rfl) Try.underlying4 rfl (λds h=>by match ds,h with|[d0],_=>rfl) claim W base args ds gs before hval hW eM
theorem andI{a b:Bool}(ha:a=true)(hb:b=true):(a&&b)=true:=by rw[ha,hb];rfl
set_option maxHeartbeats 4000000 in
theorem closed:joinedFacts Try.pinned.checked.prog 4 Try.f4 Rows.fnHitsSpec Rows.fnHitsRow=true:=by
  unfold joinedFacts;repeat' with_reducible refine andI ?_ ?_
  all_goals as_aux_lemma=>kernel_rfl
theorem over:Rows.fnHitsRow.holds Try.pinned (OpenSpec.ofChange Rows.fnHitsSpec):=
  OpenClaim.holds_of_wide 4 Try.f4 rfl rfl rfl rfl rfl rfl rfl ⟨rfl,rfl,rfl,rfl,rfl⟩ rfl rfl rfl rfl rfl (by kernel_rfl) Try.func4 closed
    (of_decide_eq_true (by kernel_rfl)) (by unfold Func.isWrapper;first|(rw[if_pos (by decide+kernel)];kernel_rfl)|(rw[if_neg (by decide+kernel)];exact⟨rfl,rfl⟩))
    (λos started H enc _=>lifted os started H enc)
theorem proved:Rows.FnHitsSaid:=over
end Go.Proofs.Ytijidheebmbkcaa.fnHits
namespace Go.Proofs.Ytijidheebmbkcaa
/-- The row, under a short name, for the claim. -/
theorem fnHits_holds:Rows.FnHitsSaid:=fnHits.proved
#print axioms fnHits_holds
end Go.Proofs.Ytijidheebmbkcaa
