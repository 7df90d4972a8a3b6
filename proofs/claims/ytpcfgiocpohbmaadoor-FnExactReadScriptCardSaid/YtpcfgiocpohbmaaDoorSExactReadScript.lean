/- Functions of the program: the evaluation of each, and that a call of it does what is told. No condition. -/
import Derived.Test.YtpcfgiocpohbmaaDoorTab
import Derived.Test.YtpcfgiocpohbmaaDoorPExactReadScript
import Derived.Test.YtpcfgiocpohbmaaDoorSh
import Derived.Shelf.Strconv.Itoa3
import Derived.Lib.ItoaLen
import Derived.Shelf.Strconv.ErrVarAll
import Derived.Shelf.Strings.SplitShaped
import Derived.Lib.SplitLaws
import Derived.Lib.SmallJoins
import Derived.WalkKit
import Derived.BigCall
import Derived.Deep.DeepMust
set_option linter.unusedVariables false
set_option linter.unusedSimpArgs false
set_option maxRecDepth 100000
namespace Go.FG.Se
open Go.Proofs Go.Proofs.Tryd
variable {R : Type}
abbrev FO := FnOk Tryd.prog T

def E30 := en [] [(4, [0, 3, 4, 5])]
def A30 : Fn [.S] As := fun a => [aS a]
def k30 : Fn [.R] Res := fun a => ⟨[aO 9 a], []⟩
def T30_4 : Fn [.S, .I, .I, .R] Tb := fun a b c d => [cA 0 (.s a), cA 6 (.own 0), cI 8 b, cI 10 c, oR 1 9 d]
def L30_4 (N : Nat) (K : Kt R) := U30.l4 N (J T30_4 (.exit 0) K)
def it30 (N : Nat) : It R := (lp 4 (al T30_4 (fun K => L30_4 N K N) an) ln)
theorem lo30_4 (N : Nat) : LoopOk E30 (it30 N (R := R)) (loopOf f30 4) := lq 4 T30_4 (L30_4 N) fun K g => U30.r4 N g (J T30_4 (.exit 0) K)
def sp30 := spf A30 k30 U30.c U30.v
theorem ok30 : FO 30 sp30 := fq (E := E30) call_nil func30 (it := fun N => it30 N) (fun N => (loops_cons (lo30_4 N) loops_nil)) U30.b U30.vo

def E31 := en [] [(6, [0, 2, 3, 4, 5, 6])]
def A31 : Fn [.S] As := fun a => [aS a]
def k31 : Fn [.R, .B] Res := fun a b => ⟨[aO 9 a, aB b], []⟩
def T31_6 : Fn [.S, .B, .I, .I, .R] Tb := fun a b c d e => [cA 0 (.s a), cA 4 .nl, cA 6 (.b b), cA 8 (.own 0), cI 10 c, cI 12 d, oR 1 9 e]
def Y31_6_0 : Fn [.S, .B, .I, .I, .R, .R] Tb := fun a b c d e f => [cA 0 (.s a), cA 4 (.own 0), cA 6 (.b b), cA 8 (.own 1), cI 10 c, cI 12 d, oR 1 9 e, oR 3 9 f]
def L31_6 (N : Nat) (K : Kt R) := U31.l6 N (J Y31_6_0 .ret K) (J T31_6 (.exit 0) K)
def it31 (N : Nat) : It R := (lp 6 (al T31_6 (fun K => L31_6 N K N) an) ln)
theorem lo31_6 (N : Nat) : LoopOk E31 (it31 N (R := R)) (loopOf f31 6) := lq 6 T31_6 (L31_6 N) fun K g => U31.r6 N g (J Y31_6_0 .ret K) (J T31_6 (.exit 0) K)
def sp31 := spf A31 k31 U31.c U31.v
theorem ok31 : FO 31 sp31 := fq (E := E31) call_nil func31 (it := fun N => it31 N) (fun N => (loops_cons (lo31_6 N) loops_nil)) U31.b U31.vo

def E68 := en [] []
def A68 : Fn [.I] As := fun a => [aI a]
def k68 : Fn [.I] Res := fun a => ⟨[.v false [.i .u8 a]], []⟩
def sp68 := spf A68 k68 (ct _) U68.v
theorem ok68 : FO 68 sp68 := ft (E := E68) call_nil func68 U68.b fun (a0, _) => U68.b_eq _ a0

def E46 := en [(68, sp68)] [(5, [0, 3, 4])]
def A46 : Fn [.I] As := fun a => [aI a]
def k46 : Fn [.S] Res := fun a => ⟨[aS a], []⟩
def T46_5 : Fn [.I, .B, .S] Tb := fun a b c => [cI 0 a, cA 6 (.b b), cA 8 (.s c)]
def L46_5 (N : Nat) (K : Kt R) := U46.l5 N (J T46_5 (.exit 0) K)
def it46 (N : Nat) : It R := (lp 5 (al T46_5 (fun K => L46_5 N K N) an) ln)
theorem lo46_5 (N : Nat) : LoopOk E46 (it46 N (R := R)) (loopOf f46 5) := lq 5 T46_5 (L46_5 N) fun K g => U46.r5 N g (J T46_5 (.exit 0) K)
def sp46 := spf A46 k46 U46.c U46.v
theorem ok46 : FO 46 sp46 := fq (E := E46) (call_cons ok68 call_nil) func46 (it := fun N => it46 N) (fun N => (loops_cons (lo46_5 N) loops_nil)) U46.b U46.vo

def E58 := en [(46, sp46)] [(5, [0, 2, 3, 4, 5])]
def A58 : Fn [.S] As := fun a => [aS a]
def k58 : Fn [.I, .B] Res := fun a b => ⟨[aI a, aB b], []⟩
def T58_5 : Fn [.S, .I, .B, .I, .I] Tb := fun a b c d e => [cA 0 (.s a), cI 4 b, cA 6 (.b c), cI 8 d, cI 10 e]
def L58_5 (N : Nat) (K : Kt R) := U58.l5 N (J T58_5 .ret K) (J T58_5 (.exit 0) K)
def it58 (N : Nat) : It R := (lp 5 (al T58_5 (fun K => L58_5 N K N) an) ln)
theorem lo58_5 (N : Nat) : LoopOk E58 (it58 N (R := R)) (loopOf f58 5) := lq 5 T58_5 (L58_5 N) fun K g => U58.r5 N g (J T58_5 .ret K) (J T58_5 (.exit 0) K)
def sp58 := spf A58 k58 U58.c U58.v
theorem ok58 : FO 58 sp58 := fq (E := E58) (call_cons ok46 call_nil) func58 (it := fun N => it58 N) (fun N => (loops_cons (lo58_5 N) loops_nil)) U58.b U58.vo

def E32 := en [(58, sp58)] [(4, [0, 2, 3, 4, 5, 6]), (13, [0, 2, 7, 9, 10, 11])]
def A32 : Fn [.R] As := fun a => [aH 9 a]
def k32 : Fn [.I, .I, .S, .I, .R, .B] Res := fun a b c d e f => ⟨[aV [.n a, .n b, .s c, .n d, .ow 3 true e], aB f], []⟩
def T32_4 : Fn [.R, .B, .I, .I, .I, .S, .I, .R, .R] Tb := fun a b c d e f g h i => [cH 0 9 a, cP 4 0, cA 6 (.b b), cA 8 (.own 1), cA 10 (.own 2), cI 12 c, oB 1 [.n d, .n e, .s f, .n g, .nl], oR 3 9 h, oR 5 3 i]
def Y32_4_1 : Fn [.R, .B, .I, .I, .S, .I] Tb := fun a b c d e f => [cH 0 9 a, cP 4 0, cA 6 (.b b), (8, .v .un), (10, .v .un), (12, .v .un), oB 1 [.n c, .n d, .s e, .n f, .nl]]
def Y32_4_2 : Fn [.R, .B, .I, .I, .S, .I, .R] Tb := fun a b c d e f g => [cH 0 9 a, cP 4 0, cA 6 (.b b), (8, .v .un), (10, .v .un), (12, .v .un), oB 1 [.n c, .n d, .s e, .n f, .own 1], oR 3 3 g]
def T32_13 : Fn [.R, .B, .B, .I, .I, .I, .S, .I, .I, .I, .S, .I] Tb := fun a b c d e f g h i j k l => [cH 0 9 a, cP 4 0, cP 14 1, cA 18 (.b b), cA 20 (.b c), cI 22 d, oB 1 [.n e, .n f, .s g, .n h, .nl], oB 3 [.n i, .n j, .s k, .n l, .nl]]
def T32_13a : Fn [.R, .B, .B, .I, .I, .I, .S, .I, .I, .I, .S, .I, .R] Tb := fun a b c d e f g h i j k l m => [cH 0 9 a, cP 4 0, cP 14 1, cA 18 (.b b), cA 20 (.b c), cI 22 d, oB 1 [.n e, .n f, .s g, .n h, .nl], oB 3 [.n i, .n j, .s k, .n l, .own 2], oR 5 3 m]
def L32_4 (N : Nat) (K : Kt R) := U32.l4 N (J T32_4 .ret K) (J Y32_4_1 .ret K) (J Y32_4_2 .ret K) (J T32_4 (.exit 0) K)
def L32_13 (N : Nat) (K : Kt R) := U32.l13 N (J T32_13 (.exit 3) K) (J T32_13a (.exit 3) K)
def L32_13a (N : Nat) (K : Kt R) := U32.l13a N (J T32_13 (.exit 3) K) (J T32_13a (.exit 3) K)
def it32 (N : Nat) : It R := (lp 4 (al T32_4 (fun K => L32_4 N K N) an) (lp 13 (al T32_13 (fun K => L32_13 N K N) (al T32_13a (fun K => L32_13a N K N) an)) ln))
theorem lo32_4 (N : Nat) : LoopOk E32 (it32 N (R := R)) (loopOf f32 4) := lq 4 T32_4 (L32_4 N) fun K g => U32.r4 N g (J T32_4 .ret K) (J Y32_4_1 .ret K) (J Y32_4_2 .ret K) (J T32_4 (.exit 0) K)
theorem w32_13a (N : Nat) (K : Kt R) : Wd E32 (it32 N) (loopOf f32 13) 13 K T32_13a (L32_13a N K) := lw (fun g => U32.r13a N (cmp _ T32_13 (g ∘ tabl)) (cmp _ T32_13a (g ∘ tabl)) (J T32_13 (.exit 3) K) (J T32_13a (.exit 3) K)) fun m i => by simp only [Function.comp_def, wf i]; rfl
theorem w32_13 (N : Nat) (K : Kt R) : Wd E32 (it32 N) (loopOf f32 13) 13 K T32_13 (L32_13 N K) := lw (fun g => U32.r13 N (cmp _ T32_13 (g ∘ tabl)) (cmp _ T32_13a (g ∘ tabl)) (J T32_13 (.exit 3) K) (J T32_13a (.exit 3) K)) fun m i => by simp only [Function.comp_def, wf i, wf (w32_13a N K m)]; rfl
theorem lo32_13 (N : Nat) : LoopOk E32 (it32 N (R := R)) (loopOf f32 13) := lm 13 (ga T32_13 (w32_13 N) (ga T32_13a (w32_13a N) good_an))
def sp32 := spf A32 k32 U32.c U32.v
theorem ok32 : FO 32 sp32 := fq (E := E32) (call_cons ok58 call_nil) func32 (it := fun N => it32 N) (fun N => (loops_cons (lo32_4 N) (loops_cons (lo32_13 N) loops_nil))) U32.b U32.vo

def E59 := en [] []
def A59 : Fn [.I, .I, .I] As := fun a b c => [aI a, aI b, aI c]
def k59 : Fn [.B] Res := fun a => ⟨[aB a], []⟩
def sp59 := spf A59 k59 (ct _) U59.v
theorem ok59 : FO 59 sp59 := ft (E := E59) call_nil func59 U59.b fun (a0, a1, a2, _) => U59.b_eq _ a0 a1 a2

def E33 := en [(59, sp59)] []
def A33 : Fn [.I, .I, .S, .I, .R] As := fun a b c d e => [aV [.n a, .n b, .s c, .n d, .sh 3 e]]
def k33 : Fn [.B] Res := fun a => ⟨[aB a], []⟩
def sp33 := spf A33 k33 (ct _) U33.v
theorem ok33 : FO 33 sp33 := ft (E := E33) (call_cons ok59 call_nil) func33 U33.b fun (a0, a1, a2, a3, a4, _) => U33.b_eq _ a0 a1 a2 a3 a4

def E10 := en [(30, sp30), (31, sp31), (32, sp32), (33, sp33)] [(7, [2, 3, 4, 5, 6, 7])]
def A10 : Fn [.S] As := fun a => [aS a]
def k10 : Fn [.R, .I] Res := fun a b => ⟨[aO 72 a, aI b], []⟩
def T10_7 : Fn [.I, .I, .R, .R, .R] Tb := fun a b c d e => [cA 4 .nl, cI 6 a, cA 8 (.own 0), cA 10 (.own 1), cA 12 (.own 2), cI 14 b, oR 1 72 c, oR 3 9 d, oR 5 72 e]
def Y10_7_0 : Fn [.I, .I, .R, .R, .R] Tb := fun a b c d e => [cA 4 (.own 0), cI 6 a, cA 8 (.own 0), cA 10 (.own 1), cA 12 (.own 2), cI 14 b, oR 1 72 c, oR 3 9 d, oR 5 72 e]
def L10_7 (N : Nat) (K : Kt R) := U10.l7 N (J Y10_7_0 .ret K) (J T10_7 (.exit 0) K)
def it10 (N : Nat) : It R := (lp 7 (al T10_7 (fun K => L10_7 N K N) an) ln)
theorem lo10_7 (N : Nat) : LoopOk E10 (it10 N (R := R)) (loopOf f10 7) := lq 7 T10_7 (L10_7 N) fun K g => U10.r7 N g (J Y10_7_0 .ret K) (J T10_7 (.exit 0) K)
def sp10 := spf A10 k10 U10.c U10.v
theorem ok10 : FO 10 sp10 := fq (E := E10) (call_cons ok30 (call_cons ok31 (call_cons ok32 (call_cons ok33 call_nil)))) func10 (it := fun N => it10 N) (fun N => (loops_cons (lo10_7 N) loops_nil)) U10.b U10.vo

theorem split_size (t : ByteArray) : ∀ (k : Nat) (s x : ByteArray), x ∈ _root_.Go.Lib.splitB t 0 k s -> x.size <= s.size
 | 0, s, x, h => by
  simp only [_root_.Go.Lib.splitB, List.mem_singleton] at h
  exact h ▸ Nat.le_refl _
 | k + 1, s, x, h => by
  unfold _root_.Go.Lib.splitB at h
  split at h
  ·simp only [List.mem_singleton] at h
   exact h ▸ Nat.le_refl _
  ·rcases List.mem_cons.1 h with rfl | h
   ·rw [ByteArray.size_extract]; omega
   ·have := split_size t k _ x h
    rw [ByteArray.size_extract] at this
    omega
def A34 : Fn [.S, .S] As := fun a b => [aS a, aS b]
def k34 : Fn [.R] Res := fun a => ⟨[.v false [.sh 9 a]], []⟩
def sp34 := spf A34 k34 U34.c U34.v
theorem ok34 : FO 34 sp34 := by
 refine fn_leaf func34 (by kernel_rfl) (by kernel_rfl) (by intro x; rfl) fun x hx w c1 vs hok hsz hvs => ?_
 obtain ⟨s, t, _⟩ := x
 replace hx : (Nat.ble s.size 4000000000 && Nat.beq t.size 1) = true := hx
 rw [Bool.and_eq_true, Nat.ble_eq, Nat.beq_eq] at hx
 obtain ⟨v, hv, hs, _⟩ := hvs 0 _ rfl
 obtain ⟨u, hu, ht, _⟩ := hvs 1 _ rfl
 subst hs ht
 have hsz : vs.size = 2 := hsz
 obtain rfl : vs = #[.string s, .string t] := by
  apply Array.ext
  ·simpa using hsz
  ·intro i h1 h2
   have : i = 0 \/ i = 1 := by simp at h2; omega
   rcases this with rfl | rfl
   ·simpa using (Array.getElem?_eq_some_iff.1 hv).2
   ·simpa using (Array.getElem?_eq_some_iff.1 hu).2
 obtain ⟨_, _, m, hm⟩ := hok.gp
 have hl := _root_.Go.Lib.splitB_all t (by omega) 0 _ s rfl
 have hc := _root_.Go.Lib.countB_le t (by omega) _ s (Nat.le_refl _)
 refine (Any.strings_Split { Tryd.lays146 with } Tryd.lays146.i9 s t m w (by omega) hm (by omega)).mono fun e w' he => ?_
 obtain ⟨rfl, rfl⟩ := he
 have hz : ∀ o, (w.alloc o).heap.size = w.heap.size + 1 := fun o => Array.size_push _
 have ha : ∀ o, (w.alloc o).heap[w.heap.size]? = some o := fun o => Array.getElem?_push_size
 refine ⟨_, rfl, ret_none (fun b => c1.K b \/ b = w.heap.size) hok (fun m o h => by cases h) ((RowKit.Below.refl _ _).alloc (Nat.le_refl _) _) (fun _ h => .inl h) (fun b h => h.elim .inl fun h => .inr ⟨Nat.le_of_eq h.symm, by rw [hz, h]; exact Nat.lt_succ_self _⟩) ?_⟩
 exact holds_new (by_ := 16) (by kernel_rfl) hl.symm (ha _) (.inr rfl) (fun x h => Nat.le_trans (split_size t _ _ x h) (Nat.le_trans hx.1 (by decide))) (by rw [hl]; exact Nat.le_trans (Nat.succ_le_succ (Nat.le_trans hc hx.1)) (by decide))

def E61 := en [] []
def A61 : Fn [.I, .I, .I] As := fun a b c => [aI a, aI b, aI c]
def k61 : Fn [.B] Res := fun a => ⟨[aB a], []⟩
def sp61 := spf A61 k61 (ct _) U61.v
theorem ok61 : FO 61 sp61 := ft (E := E61) call_nil func61 U61.b fun (a0, a1, a2, _) => U61.b_eq _ a0 a1 a2

def E35 := en [(61, sp61), (34, sp34)] [(5, [0, 2, 3, 4, 5]), (10, [4, 25, 26, 27])]
def A35 : Fn [.S] As := fun a => [aS a]
def k35 : Fn [.R, .B] Res := fun a b => ⟨[aO 9 a, aB b], []⟩
def T35_5 : Fn [.S, .B, .I, .R] Tb := fun a b c d => [cA 0 (.s a), cA 4 .nl, cA 6 (.b b), cA 8 (.own 0), cI 10 c, oR 1 9 d]
def T35_10 : Fn [.R, .I, .I, .R] Tb := fun a b c d => [cA 8 (.own 0), cH 50 9 a, cI 52 b, cI 54 c, oR 1 9 d]
def L35_5 (N : Nat) (K : Kt R) := U35.l5 N (J T35_5 .ret K) (J T35_5 (.exit 0) K)
def L35_10 (N : Nat) (K : Kt R) := U35.l10 N (J T35_10 (.exit 2) K)
def it35 (N : Nat) : It R := (lp 5 (al T35_5 (fun K => L35_5 N K N) an) (lp 10 (al T35_10 (fun K => L35_10 N K N) an) ln))
theorem lo35_5 (N : Nat) : LoopOk E35 (it35 N (R := R)) (loopOf f35 5) := lq 5 T35_5 (L35_5 N) fun K g => U35.r5 N g (J T35_5 .ret K) (J T35_5 (.exit 0) K)
theorem lo35_10 (N : Nat) : LoopOk E35 (it35 N (R := R)) (loopOf f35 10) := lq 10 T35_10 (L35_10 N) fun K g => U35.r10 N g (J T35_10 (.exit 2) K)
def sp35 := spf A35 k35 U35.c U35.v
theorem ok35 : FO 35 sp35 := fq (E := E35) (call_cons ok61 (call_cons ok34 call_nil)) func35 (it := fun N => it35 N) (fun N => (loops_cons (lo35_5 N) (loops_cons (lo35_10 N) loops_nil))) U35.b U35.vo

def E62 := en [] []
def A62 : Fn [.S] As := fun a => [aS a]
def k62 : Fn [.I, .S] Res := fun a b => ⟨[aI a, aS b], []⟩
def sp62 := spf A62 k62 (ct _) U62.v
theorem ok62 : FO 62 sp62 := ft (E := E62) call_nil func62 U62.b fun (a0, _) => U62.b_eq _ a0

theorem itoaC (n : Int) (h0 : -9223372036854775808 <= n) (h1 : n <= 9223372036854775807) (w : World) (h : _root_.Go.Lib.TabIs Tryd.prog w "internal/strconv.uint64pow10" .u64 _root_.Go.Lib.pow10Tab) :
  Calls Tryd.prog 52 #[.int .i64 n] w fun e w' => e = .returned (.string ⟨(_root_.Go.Lib.itoa n).toArray⟩) /\ RowKit.Below w.heap.size w w' :=
 (Any.strconv_Itoa Tryd.lays171 n h0 h1 w h).mono fun e w' ⟨he, k, os, hw⟩ => ⟨he, hw ▸ below_drewG w k os⟩
theorem below_atoi {w w1 : World} {t : TypeId} (h : w1 = w \/ ∃ s, w1 = _root_.Go.Lib.bytesWorld w t s) : RowKit.Below w.heap.size w w1 := by
 rcases h with rfl | ⟨s, rfl⟩
 ·exact .refl _ _
 ·exact _root_.Go.Joins.below_bytesWorld _ w t s (Nat.le_refl _)
theorem below_join {w w1 w2 : World} (h1 : RowKit.Below w.heap.size w w1) (h2 : RowKit.Below w1.heap.size w1 w2) : RowKit.Below w.heap.size w w2 := h1.trans ⟨h2.os, h2.tape, h2.output, h2.size, fun i hi => h2.block i (Nat.lt_of_lt_of_le hi h1.size)⟩
set_option maxHeartbeats 1000000 in
theorem readC (s : ByteArray) (hs : s.size <= 140737488355328) (w : World) (h : _root_.Go.Lib.TabIs Tryd.prog w "internal/strconv.uint64pow10" .u64 _root_.Go.Lib.pow10Tab) (g1 : 1 < w.heap.size)
  (hE : ∃ tp p, w.var? Tryd.prog "strconv.ErrSyntax" = some #[.iface tp p]) (hR : ∃ tp p, w.var? Tryd.prog "strconv.ErrRange" = some #[.iface tp p]) :
  Calls Tryd.prog 64 #[.string s] w fun e w' => e = .returned (.tuple #[.int .i64 (U64.v s).1, .bool (U64.v s).2]) /\ RowKit.Below w.heap.size w w' := by
 unfold U64.v
 cases ha : _root_.Go.Lib.atoiAll s.data.toList with
 | range =>
  obtain ⟨tp, p, hR⟩ := hR
  go_enter func64, Tryd.ntmps64
  go_wp2_with (first | (go_at_call 75; refine (Any.strconv_Atoi_range_var Tryd.lays172 s (by omega) ha tp p w hR).mono ?_; rintro e w1 ⟨N, rfl, -, -, hb⟩) | go_in)
  go_ret2; exact ⟨rfl, hb⟩
 | ok n =>
  have hn := _root_.Go.Lib.atoiAll_bounds ha
  go_enter func64, Tryd.ntmps64
  go_wp2_with (first | (go_at_call 75; go_must (refine (Any.strconv_Atoi_ok Tryd.lays172 s (by omega) n ha w).mono ?_; rintro e w1 ⟨rfl, hw1⟩; replace hw1 := below_atoi hw1; have hT1 := _root_.Go.Joins.tab_stays (g := 1) (by kernel_rfl) h hw1 (Nat.le_refl _))) | (go_at_call 52; go_must (refine (itoaC n (by omega) (by omega) _ hT1).mono ?_; rintro e w2 ⟨rfl, hb2⟩; replace hb2 := below_join hw1 hb2)) | go_in)
  ·rename_i h0 h1 _ hq
   rw [_root_.Go.Lib.toList_data] at hq
   go_ret2; refine ⟨?_, hb2⟩
   simp only [Bool.not_eq_true'] at hq
   simp [hq]
  ·rename_i h0 h1 hq
   rw [_root_.Go.Lib.toList_data] at hq
   go_ret2; refine ⟨?_, hb2⟩
   simp only [Bool.not_eq_false'] at hq
   simp [hq, h0, h1]
  ·rename_i h0 h1
   go_ret2; refine ⟨?_, hw1⟩
   simp [h0, show ¬ n <= 1000000000 by omega]
  ·rename_i h0
   go_ret2; refine ⟨?_, hw1⟩
   simp [show ¬ 0 <= n by omega]
 | _ =>
  obtain ⟨tp, p, hE⟩ := hE
  go_enter func64, Tryd.ntmps64
  go_wp2_with (first | (go_at_call 75; refine (Any.strconv_Atoi_syntax_var Tryd.lays172 s (by omega) ha tp p w hE).mono ?_; rintro e w1 ⟨N, rfl, -, -, hb⟩) | go_in)
  go_ret2; exact ⟨rfl, hb⟩
def A64 : Fn [.S] As := fun a => [aS a]
def k64 : Fn [.I, .B] Res := fun a b => ⟨[aI a, aB b], []⟩
def sp64 := spf A64 k64 U64.c U64.v
theorem ok64 : FO 64 sp64 := by
 refine fn_leaf func64 (by kernel_rfl) (by kernel_rfl) (by intro x; rfl) fun x hx w c1 vs hok hsz hvs => ?_
 obtain ⟨s, _⟩ := x
 replace hx : Nat.ble s.size 140737488355328 = true := hx
 rw [Nat.ble_eq] at hx
 obtain ⟨v, hv, hs, _⟩ := hvs 0 _ rfl
 subst hs
 have hsz : vs.size = 1 := hsz
 obtain rfl : vs = #[.string s] := by
  apply Array.ext
  ·simpa using hsz
  ·intro i h1 h2
   obtain rfl : i = 0 := by simp at h2; omega
   simpa using (Array.getElem?_eq_some_iff.1 hv).2
 obtain ⟨⟨⟨⟨hg, cs, h1, rfl⟩, _, cs2, h2, tp2, p2, rfl⟩, _, cs3, h3, tp3, p3, rfl⟩, _⟩ := hok.gp
 refine (readC s hx w h1 (hok.lt 1 hg) ⟨_, _, h2⟩ ⟨_, _, h3⟩).mono fun e w' he => ?_
 obtain ⟨rfl, hb⟩ := he
 refine ⟨_, rfl, ret_none c1.K hok (fun m o h => by cases h) hb (fun _ h => h) (fun _ h => .inl h) ⟨_, rfl, rfl, fun j agg xs hj => ?_⟩⟩
 match j, hj with
 | 0, hj => cases hj; exact ⟨_, rfl, rfl⟩
 | 1, hj => cases hj; exact ⟨_, rfl, rfl⟩

def E65 := en [(61, sp61)] []
def A65 : Fn [.I, .I, .S, .I, .R] As := fun a b c d e => [aV [.n a, .n b, .s c, .n d, .sh 3 e]]
def k65 : Fn [.B] Res := fun a => ⟨[aB a], []⟩
def sp65 := spf A65 k65 (ct _) U65.v
theorem ok65 : FO 65 sp65 := ft (E := E65) (call_cons ok61 call_nil) func65 U65.b fun (a0, a1, a2, a3, a4, _) => U65.b_eq _ a0 a1 a2 a3 a4

def E63 := en [(64, sp64), (65, sp65)] [(3, [2, 3, 4, 10, 11, 12])]
def A63 : Fn [.R] As := fun a => [aH 9 a]
def k63 : Fn [.I, .I, .S, .I, .R, .B] Res := fun a b c d e f => ⟨[aV [.n a, .n b, .s c, .n d, .ow 3 true e], aB f], []⟩
def T63_3 : Fn [.B, .R, .I, .I, .I, .I, .S, .I, .I, .I, .S, .I] Tb := fun a b c d e f g h i j k l => [cP 4 0, cA 6 (.b a), cP 8 1, cH 20 9 b, cI 22 c, cI 24 d, oB 1 [.n e, .n f, .s g, .n h, .nl], oB 3 [.n i, .n j, .s k, .n l, .nl]]
def T63_3a : Fn [.B, .R, .I, .I, .I, .I, .S, .I, .I, .I, .S, .I, .R] Tb := fun a b c d e f g h i j k l m => [cP 4 0, cA 6 (.b a), cP 8 1, cH 20 9 b, cI 22 c, cI 24 d, oB 1 [.n e, .n f, .s g, .n h, .nl], oB 3 [.n i, .n j, .s k, .n l, .own 2], oR 5 3 m]
def Y63_3_2 : Fn [.B, .R, .I, .I, .I, .I, .S, .I, .I, .I, .S, .I, .R] Tb := fun a b c d e f g h i j k l m => [cP 4 0, cA 6 (.b a), cP 8 1, cH 20 9 b, cI 22 c, cI 24 d, oB 1 [.n e, .n f, .s g, .n h, .own 2], oB 3 [.n i, .n j, .s k, .n l, .own 2], oR 5 3 m]
def L63_3 (N : Nat) (K : Kt R) := U63.l3 N (J T63_3 .ret K) (J T63_3 (.exit 0) K) (J Y63_3_2 .ret K) (J T63_3a (.exit 0) K)
def L63_3a (N : Nat) (K : Kt R) := U63.l3a N (J T63_3 .ret K) (J T63_3 (.exit 0) K) (J Y63_3_2 .ret K) (J T63_3a (.exit 0) K)
def it63 (N : Nat) : It R := (lp 3 (al T63_3 (fun K => L63_3 N K N) (al T63_3a (fun K => L63_3a N K N) an)) ln)
theorem w63_3a (N : Nat) (K : Kt R) : Wd E63 (it63 N) (loopOf f63 3) 3 K T63_3a (L63_3a N K) := lw (fun g => U63.r3a N (cmp _ T63_3 (g ∘ tabl)) (cmp _ T63_3a (g ∘ tabl)) (J T63_3 .ret K) (J T63_3 (.exit 0) K) (J Y63_3_2 .ret K) (J T63_3a (.exit 0) K)) fun m i => by simp only [Function.comp_def, wf i]; rfl
theorem w63_3 (N : Nat) (K : Kt R) : Wd E63 (it63 N) (loopOf f63 3) 3 K T63_3 (L63_3 N K) := lw (fun g => U63.r3 N (cmp _ T63_3 (g ∘ tabl)) (cmp _ T63_3a (g ∘ tabl)) (J T63_3 .ret K) (J T63_3 (.exit 0) K) (J Y63_3_2 .ret K) (J T63_3a (.exit 0) K)) fun m i => by simp only [Function.comp_def, wf i, wf (w63_3a N K m)]; rfl
theorem lo63_3 (N : Nat) : LoopOk E63 (it63 N (R := R)) (loopOf f63 3) := lm 3 (ga T63_3 (w63_3 N) (ga T63_3a (w63_3a N) good_an))
def sp63 := spf A63 k63 U63.c U63.v
theorem ok63 : FO 63 sp63 := fq (E := E63) (call_cons ok64 (call_cons ok65 call_nil)) func63 (it := fun N => it63 N) (fun N => (loops_cons (lo63_3 N) loops_nil)) U63.b U63.vo

def E36 := en [(62, sp62), (63, sp63), (64, sp64), (65, sp65)] [(8, [2, 3, 5, 6, 39, 40, 41])]
def A36 : Fn [.R] As := fun a => [aH 9 a]
def k36 : Fn [.I, .I, .S, .I, .R, .B] Res := fun a b c d e f => ⟨[aV [.n a, .n b, .s c, .n d, .ow 3 true e], aB f], []⟩
def T36_8 : Fn [.B, .S, .R, .I, .I, .I, .I, .S, .I, .I, .I, .S, .I] Tb := fun a b c d e f g h i j k l m => [cP 4 0, cA 6 (.b a), cA 10 (.s b), cP 12 1, cH 78 9 c, cI 80 d, cI 82 e, oB 1 [.n f, .n g, .s h, .n i, .nl], oB 3 [.n j, .n k, .s l, .n m, .nl]]
def L36_8 (N : Nat) (K : Kt R) := U36.l8 N (J T36_8 .ret K) (J T36_8 (.exit 0) K)
def it36 (N : Nat) : It R := (lp 8 (al T36_8 (fun K => L36_8 N K N) an) ln)
theorem lo36_8 (N : Nat) : LoopOk E36 (it36 N (R := R)) (loopOf f36 8) := lq 8 T36_8 (L36_8 N) fun K g => U36.r8 N g (J T36_8 .ret K) (J T36_8 (.exit 0) K)
def sp36 := spf A36 k36 U36.c U36.v
theorem ok36 : FO 36 sp36 := fq (E := E36) (call_cons ok62 (call_cons ok63 (call_cons ok64 (call_cons ok65 call_nil)))) func36 (it := fun N => it36 N) (fun N => (loops_cons (lo36_8 N) loops_nil)) U36.b U36.vo

def E11 := en [(34, sp34), (35, sp35), (36, sp36)] [(8, [2, 3, 5, 35, 36, 37])]
def A11 : Fn [.S] As := fun a => [aS a]
def k11 : Fn [.R, .I] Res := fun a b => ⟨[aO 72 a, aI b], []⟩
def T11_8 : Fn [.I, .R, .I, .I, .R] Tb := fun a b c d e => [cA 4 .nl, cI 6 a, cA 10 (.own 0), cH 70 9 b, cI 72 c, cI 74 d, oR 1 72 e]
def L11_8 (N : Nat) (K : Kt R) := U11.l8 N (J T11_8 .ret K) (J T11_8 (.exit 0) K)
def it11 (N : Nat) : It R := (lp 8 (al T11_8 (fun K => L11_8 N K N) an) ln)
theorem lo11_8 (N : Nat) : LoopOk E11 (it11 N (R := R)) (loopOf f11 8) := lq 8 T11_8 (L11_8 N) fun K g => U11.r8 N g (J T11_8 .ret K) (J T11_8 (.exit 0) K)
def sp11 := spf A11 k11 U11.c U11.v
theorem ok11 : FO 11 sp11 := fq (E := E11) (call_cons ok34 (call_cons ok35 (call_cons ok36 call_nil))) func11 (it := fun N => it11 N) (fun N => (loops_cons (lo11_8 N) loops_nil)) U11.b U11.vo

def E66 := en [] [(4, [0, 1, 4, 5])]
def A66 : Fn [.R, .R] As := fun a b => [aH 3 a, aH 3 b]
def k66 : Fn [.B] Res := fun a => ⟨[aB a], []⟩
def T66_4 : Fn [.R, .R, .B, .I] Tb := fun a b c d => [cH 0 3 a, cH 2 3 b, cA 8 (.b c), cI 10 d]
def L66_4 (N : Nat) (K : Kt R) := U66.l4 N (J T66_4 .ret K) (J T66_4 (.exit 0) K)
def it66 (N : Nat) : It R := (lp 4 (al T66_4 (fun K => L66_4 N K N) an) ln)
theorem lo66_4 (N : Nat) : LoopOk E66 (it66 N (R := R)) (loopOf f66 4) := lq 4 T66_4 (L66_4 N) fun K g => U66.r4 N g (J T66_4 .ret K) (J T66_4 (.exit 0) K)
def sp66 := spf A66 k66 (ct _) U66.v
theorem ok66 : FO 66 sp66 := fh (E := E66) call_nil func66 (it := fun N => it66 N) (fun N => (loops_cons (lo66_4 N) loops_nil)) U66.b fun x f h => U66.b_eq _ x.1 x.2.1 f.1.1 f.2.1.1

def E37 := en [(66, sp66)] []
def A37 : Fn [.I, .I, .S, .I, .R, .I, .I, .S, .I, .R] As := fun a b c d e f g h i j => [aV [.n a, .n b, .s c, .n d, .sh 3 e], aV [.n f, .n g, .s h, .n i, .sh 3 j]]
def k37 : Fn [.B] Res := fun a => ⟨[aB a], []⟩
def sp37 := spf A37 k37 (ct _) U37.v
theorem ok37 : FO 37 sp37 := ft (E := E37) (call_cons ok66 call_nil) func37 U37.b fun (a0, a1, a2, a3, a4, a5, a6, a7, a8, a9, _) => U37.b_eq _ a0 a1 a2 a3 a4 a5 a6 a7 a8 a9

def E12 := en [(37, sp37)] [(4, [0, 1, 4, 5])]
def A12 : Fn [.R, .R] As := fun a b => [aH 72 a, aH 72 b]
def k12 : Fn [.B] Res := fun a => ⟨[aB a], []⟩
def T12_4 : Fn [.R, .R, .B, .I] Tb := fun a b c d => [cH 0 72 a, cH 2 72 b, cA 8 (.b c), cI 10 d]
def L12_4 (N : Nat) (K : Kt R) := U12.l4 N (J T12_4 .ret K) (J T12_4 (.exit 0) K)
def it12 (N : Nat) : It R := (lp 4 (al T12_4 (fun K => L12_4 N K N) an) ln)
theorem lo12_4 (N : Nat) : LoopOk E12 (it12 N (R := R)) (loopOf f12 4) := lq 4 T12_4 (L12_4 N) fun K g => U12.r4 N g (J T12_4 .ret K) (J T12_4 (.exit 0) K)
def sp12 := spf A12 k12 U12.c U12.v
theorem ok12 : FO 12 sp12 := fq (E := E12) (call_cons ok37 call_nil) func12 (it := fun N => it12 N) (fun N => (loops_cons (lo12_4 N) loops_nil)) U12.b U12.vo

def E38 := en [] [(4, [0, 3])]
def A38 : Fn [.I] As := fun a => [aI a]
def k38 : Fn [.S] Res := fun a => ⟨[aS a], []⟩
def T38_4 : Fn [.I, .S] Tb := fun a b => [cI 0 a, cA 6 (.s b)]
def L38_4 (N : Nat) (K : Kt R) := U38.l4 N (J T38_4 (.exit 0) K)
def it38 (N : Nat) : It R := (lp 4 (al T38_4 (fun K => L38_4 N K N) an) ln)
theorem lo38_4 (N : Nat) : LoopOk E38 (it38 N (R := R)) (loopOf f38 4) := lq 4 T38_4 (L38_4 N) fun K g => U38.r4 N g (J T38_4 (.exit 0) K)
def sp38 := spf A38 k38 U38.c U38.v
theorem ok38 : FO 38 sp38 := fq (E := E38) call_nil func38 (it := fun N => it38 N) (fun N => (loops_cons (lo38_4 N) loops_nil)) U38.b U38.vo

def E39 := en [] [(2, [0, 1, 5])]
def A39 : Fn [.R, .I] As := fun a b => [aO 3 a, aI b]
def k39 : Fn [.I, .R] Res := fun a b => ⟨[aI a], [[.kp b]]⟩
def T39_2 : Fn [.I, .I, .R] Tb := fun a b c => [cA 0 (.own 900000000), cI 2 a, cI 10 b, oR 1800000001 3 c]
def L39_2 (N : Nat) (K : Kt R) := U39.l2 N (J T39_2 (.exit 0) K)
def it39 (N : Nat) : It R := (lp 2 (al T39_2 (fun K => L39_2 N K N) an) ln)
theorem lo39_2 (N : Nat) : LoopOk E39 (it39 N (R := R)) (loopOf f39 2) := lq 2 T39_2 (L39_2 N) fun K g => U39.r2 N g (J T39_2 (.exit 0) K)
def sp39 := spf A39 k39 U39.c U39.v
theorem ok39 : FO 39 sp39 := fq (E := E39) call_nil func39 (it := fun N => it39 N) (fun N => (loops_cons (lo39_2 N) loops_nil)) U39.b U39.vo

def E13 := en [(38, sp38), (39, sp39)] [(2, [0, 1, 5])]
def A13 : Fn [.R, .I] As := fun a b => [aO 72 a, aI b]
def k13 : Fn [.I, .R] Res := fun a b => ⟨[aI a], [[.kp b]]⟩
def T13_2 : Fn [.I, .I, .R] Tb := fun a b c => [cA 0 (.own 900000000), cI 2 a, cI 10 b, oR 1800000001 72 c]
def L13_2 (N : Nat) (K : Kt R) := U13.l2 N (J T13_2 (.exit 0) K)
def it13 (N : Nat) : It R := (lp 2 (al T13_2 (fun K => L13_2 N K N) an) ln)
theorem lo13_2 (N : Nat) : LoopOk E13 (it13 N (R := R)) (loopOf f13 2) := lq 2 T13_2 (L13_2 N) fun K g => U13.r2 N g (J T13_2 (.exit 0) K)
def sp13 := spf A13 k13 U13.c U13.v
theorem ok13 : FO 13 sp13 := fq (E := E13) (call_cons ok38 (call_cons ok39 call_nil)) func13 (it := fun N => it13 N) (fun N => (loops_cons (lo13_2 N) loops_nil)) U13.b U13.vo

def E40 := en [] [(2, [0, 1, 4, 5])]
def A40 : Fn [.R, .I] As := fun a b => [aH 3 a, aI b]
def k40 : Fn [.I] Res := fun a => ⟨[aI a], []⟩
def T40_2 : Fn [.R, .I, .I, .I] Tb := fun a b c d => [cH 0 3 a, cI 2 b, cI 8 c, cI 10 d]
def L40_2 (N : Nat) (K : Kt R) := U40.l2 N (J T40_2 .ret K) (J T40_2 (.exit 0) K)
def it40 (N : Nat) : It R := (lp 2 (al T40_2 (fun K => L40_2 N K N) an) ln)
theorem lo40_2 (N : Nat) : LoopOk E40 (it40 N (R := R)) (loopOf f40 2) := lq 2 T40_2 (L40_2 N) fun K g => U40.r2 N g (J T40_2 .ret K) (J T40_2 (.exit 0) K)
def sp40 := spf A40 k40 U40.c U40.v
theorem ok40 : FO 40 sp40 := fq (E := E40) call_nil func40 (it := fun N => it40 N) (fun N => (loops_cons (lo40_2 N) loops_nil)) U40.b U40.vo

def E14 := en [(38, sp38), (40, sp40)] [(2, [0, 1, 4, 5])]
def A14 : Fn [.R, .I] As := fun a b => [aH 72 a, aI b]
def k14 : Fn [.I] Res := fun a => ⟨[aI a], []⟩
def T14_2 : Fn [.R, .I, .I, .I] Tb := fun a b c d => [cH 0 72 a, cI 2 b, cI 8 c, cI 10 d]
def L14_2 (N : Nat) (K : Kt R) := U14.l2 N (J T14_2 .ret K) (J T14_2 (.exit 0) K)
def it14 (N : Nat) : It R := (lp 2 (al T14_2 (fun K => L14_2 N K N) an) ln)
theorem lo14_2 (N : Nat) : LoopOk E14 (it14 N (R := R)) (loopOf f14 2) := lq 2 T14_2 (L14_2 N) fun K g => U14.r2 N g (J T14_2 .ret K) (J T14_2 (.exit 0) K)
def sp14 := spf A14 k14 U14.c U14.v
theorem ok14 : FO 14 sp14 := fq (E := E14) (call_cons ok38 (call_cons ok40 call_nil)) func14 (it := fun N => it14 N) (fun N => (loops_cons (lo14_2 N) loops_nil)) U14.b U14.vo

def E4 := en [(10, sp10), (11, sp11), (12, sp12), (13, sp13), (14, sp14)] []
def A4 : Fn [.S] As := fun a => [aS a]
def k4 : Fn [.B] Res := fun a => ⟨[aB a], []⟩
def sp4 := spf A4 k4 U4.c U4.v
theorem ok4 : FO 4 sp4 := fr (E := E4) (call_cons ok10 (call_cons ok11 (call_cons ok12 (call_cons ok13 (call_cons ok14 call_nil))))) func4 U4.b U4.vo

end Go.FG.Se
