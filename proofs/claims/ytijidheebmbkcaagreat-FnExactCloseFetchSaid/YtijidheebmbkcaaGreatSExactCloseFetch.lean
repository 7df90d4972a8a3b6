/- Functions of the program: the evaluation of each, and that a call of it does what is told. No condition. -/
import Derived.Test.YtijidheebmbkcaaGreatTab
import Derived.Test.YtijidheebmbkcaaGreatPExactCloseFetch
import Derived.Test.YtijidheebmbkcaaGreatIns
set_option linter.unusedVariables false
set_option linter.unusedSimpArgs false
set_option maxRecDepth 100000
namespace Go.FG.Se
open Go.Proofs
def E49 := en [] []
def A49 : Fn [.S, .I, .I, .S, .I] As := fun a b c d e => [aV [.s a, .n b, .n c, .s d], aI e]
def k49 : Fn [.I] Res := fun a => ⟨[aI a], []⟩
def sp49 := spf A49 k49 (ct _) U49.v
theorem ok49 : FnOk Tryz.prog T 49 sp49 := ft (E := E49) call_nil Tryz.func49 U49.b fun (a0, a1, a2, a3, a4, _) => U49.b_eq _ a0 a1 a2 a3 a4

def E16 := en [(49, sp49)] [(5, [0, 1, 4, 5])]
def A16 : Fn [.R, .I] As := fun a b => [aH 85 a, aI b]
def k16 : Fn [.I] Res := fun a => ⟨[aI a], []⟩
def T16_5 : Fn [.R, .I, .I, .I] Tb := fun a b c d => [cH 0 85 a, cI 2 b, cI 8 c, cI 10 d]
def L16_5 (N : Nat) {R : Type} (K : Kt R) := U16.l5 N (J T16_5 .ret K) (J T16_5 (.exit 0) K)
def it16 (N : Nat) {R : Type} : It R := (lp 5 (al T16_5 (fun K => L16_5 N K N) an) ln)
theorem lo16_5 {R : Type} (N : Nat) : LoopOk E16 (it16 N (R := R)) (loopOf Tryz.f16 5) := lq 5 T16_5 (L16_5 N) fun K g => U16.r5 N g (J T16_5 .ret K) (J T16_5 (.exit 0) K)
def sp16 := spf A16 k16 U16.c U16.v
theorem ok16 : FnOk Tryz.prog T 16 sp16 := fq (E := E16) (call_cons ok49 call_nil) Tryz.func16 (it := fun N => it16 N) (fun N => (loops_cons (lo16_5 N) loops_nil)) U16.b U16.vo

def E62 := en [] [(5, [0, 1, 4, 5])]
def A62 : Fn [.R, .I] As := fun a b => [aH 9 a, aI b]
def k62 : Fn [.I] Res := fun a => ⟨[aI a], []⟩
def T62_5 : Fn [.R, .I, .I, .I] Tb := fun a b c d => [cH 0 9 a, cI 2 b, cI 8 c, cI 10 d]
def L62_5 (N : Nat) {R : Type} (K : Kt R) := U62.l5 N (J T62_5 .ret K) (J T62_5 (.exit 0) K)
def it62 (N : Nat) {R : Type} : It R := (lp 5 (al T62_5 (fun K => L62_5 N K N) an) ln)
theorem lo62_5 {R : Type} (N : Nat) : LoopOk E62 (it62 N (R := R)) (loopOf Tryz.f62 5) := lq 5 T62_5 (L62_5 N) fun K g => U62.r5 N g (J T62_5 .ret K) (J T62_5 (.exit 0) K)
def sp62 := spf A62 k62 U62.c U62.v
theorem ok62 : FnOk Tryz.prog T 62 sp62 := fq (E := E62) call_nil Tryz.func62 (it := fun N => it62 N) (fun N => (loops_cons (lo62_5 N) loops_nil)) U62.b U62.vo

def E130 := en [] []
def A130 : Fn [.R, .I] As := fun a b => [aH 3 a, aI b]
def k130 : Fn [.I] Res := fun a => ⟨[aI a], []⟩
def sp130 := spf A130 k130 (ct _) U130.v
theorem ok130 : FnOk Tryz.prog T 130 sp130 := ft (E := E130) call_nil Tryz.func130 U130.b fun (a0, a1, _) => U130.b_eq _ a0 a1

def E100 := en [(130, sp130)] [(5, [0, 1, 4, 5])]
def A100 : Fn [.R, .I] As := fun a b => [aH 144 a, aI b]
def k100 : Fn [.I] Res := fun a => ⟨[aI a], []⟩
def T100_5 : Fn [.R, .I, .I, .I] Tb := fun a b c d => [cH 0 144 a, cI 2 b, cI 8 c, cI 10 d]
def L100_5 (N : Nat) {R : Type} (K : Kt R) := U100.l5 N (J T100_5 .ret K) (J T100_5 (.exit 0) K)
def it100 (N : Nat) {R : Type} : It R := (lp 5 (al T100_5 (fun K => L100_5 N K N) an) ln)
theorem lo100_5 {R : Type} (N : Nat) : LoopOk E100 (it100 N (R := R)) (loopOf Tryz.f100 5) := lq 5 T100_5 (L100_5 N) fun K g => U100.r5 N g (J T100_5 .ret K) (J T100_5 (.exit 0) K)
def sp100 := spf A100 k100 U100.c U100.v
theorem ok100 : FnOk Tryz.prog T 100 sp100 := fq (E := E100) (call_cons ok130 call_nil) Tryz.func100 (it := fun N => it100 N) (fun N => (loops_cons (lo100_5 N) loops_nil)) U100.b U100.vo

def E63 := en [(100, sp100)] []
def A63 : Fn [.R, .I, .I] As := fun a b c => [aV [.sh 144 a, .n b], aI c]
def k63 : Fn [.I] Res := fun a => ⟨[aI a], []⟩
def sp63 := spf A63 k63 U63.c U63.v
theorem ok63 : FnOk Tryz.prog T 63 sp63 := fr (E := E63) (call_cons ok100 call_nil) Tryz.func63 U63.b U63.vo

def E24 := en [(62, sp62), (63, sp63)] []
def A24 : Fn [.R, .R, .R, .I, .I] As := fun a b c d e => [aV [.sh 9 a, .sh 9 b, .sh 144 c, .n d], aI e]
def k24 : Fn [.I] Res := fun a => ⟨[aI a], []⟩
def sp24 := spf A24 k24 U24.c U24.v
theorem ok24 : FnOk Tryz.prog T 24 sp24 := fr (E := E24) (call_cons ok62 (call_cons ok63 call_nil)) Tryz.func24 U24.b U24.vo

def E64 := en [] []
def A64 : Fn [.S, .S, .I, .I, .I, .I] As := fun a b c d e f => [aV [.s a, .s b, .n c, .n d, .n e], aI f]
def k64 : Fn [.I] Res := fun a => ⟨[aI a], []⟩
def sp64 := spf A64 k64 (ct _) U64.v
theorem ok64 : FnOk Tryz.prog T 64 sp64 := ft (E := E64) call_nil Tryz.func64 U64.b fun (a0, a1, a2, a3, a4, a5, _) => U64.b_eq _ a0 a1 a2 a3 a4 a5

def E25 := en [(64, sp64)] [(5, [0, 1, 4, 5])]
def A25 : Fn [.R, .I] As := fun a b => [aH 100 a, aI b]
def k25 : Fn [.I] Res := fun a => ⟨[aI a], []⟩
def T25_5 : Fn [.R, .I, .I, .I] Tb := fun a b c d => [cH 0 100 a, cI 2 b, cI 8 c, cI 10 d]
def L25_5 (N : Nat) {R : Type} (K : Kt R) := U25.l5 N (J T25_5 .ret K) (J T25_5 (.exit 0) K)
def it25 (N : Nat) {R : Type} : It R := (lp 5 (al T25_5 (fun K => L25_5 N K N) an) ln)
theorem lo25_5 {R : Type} (N : Nat) : LoopOk E25 (it25 N (R := R)) (loopOf Tryz.f25 5) := lq 5 T25_5 (L25_5 N) fun K g => U25.r5 N g (J T25_5 .ret K) (J T25_5 (.exit 0) K)
def sp25 := spf A25 k25 U25.c U25.v
theorem ok25 : FnOk Tryz.prog T 25 sp25 := fq (E := E25) (call_cons ok64 call_nil) Tryz.func25 (it := fun N => it25 N) (fun N => (loops_cons (lo25_5 N) loops_nil)) U25.b U25.vo

def E65 := en [] []
def A65 : Fn [.I, .S, .I, .I, .I, .S, .I, .I] As := fun a b c d e f g h => [aV [.n a, .s b, .n c, .n d, .n e, .s f, .n g], aI h]
def k65 : Fn [.I] Res := fun a => ⟨[aI a], []⟩
def sp65 := spf A65 k65 (ct _) U65.v
theorem ok65 : FnOk Tryz.prog T 65 sp65 := ft (E := E65) call_nil Tryz.func65 U65.b fun (a0, a1, a2, a3, a4, a5, a6, a7, _) => U65.b_eq _ a0 a1 a2 a3 a4 a5 a6 a7

def E26 := en [(65, sp65)] [(5, [0, 1, 4, 5])]
def A26 : Fn [.R, .I] As := fun a b => [aH 103 a, aI b]
def k26 : Fn [.I] Res := fun a => ⟨[aI a], []⟩
def T26_5 : Fn [.R, .I, .I, .I] Tb := fun a b c d => [cH 0 103 a, cI 2 b, cI 8 c, cI 10 d]
def L26_5 (N : Nat) {R : Type} (K : Kt R) := U26.l5 N (J T26_5 .ret K) (J T26_5 (.exit 0) K)
def it26 (N : Nat) {R : Type} : It R := (lp 5 (al T26_5 (fun K => L26_5 N K N) an) ln)
theorem lo26_5 {R : Type} (N : Nat) : LoopOk E26 (it26 N (R := R)) (loopOf Tryz.f26 5) := lq 5 T26_5 (L26_5 N) fun K g => U26.r5 N g (J T26_5 .ret K) (J T26_5 (.exit 0) K)
def sp26 := spf A26 k26 U26.c U26.v
theorem ok26 : FnOk Tryz.prog T 26 sp26 := fq (E := E26) (call_cons ok65 call_nil) Tryz.func26 (it := fun N => it26 N) (fun N => (loops_cons (lo26_5 N) loops_nil)) U26.b U26.vo

def E7 := en [(16, sp16), (24, sp24), (25, sp25), (26, sp26)] []
def A7 : Fn [.I, .R, .R, .R, .R, .I, .R, .R, .I, .I] As := fun a b c d e f g h i j => [aV [.n a, .sh 85 b, .sh 9 c, .sh 9 d, .sh 144 e, .n f, .sh 100 g, .sh 103 h, .n i], aI j]
def k7 : Fn [.I] Res := fun a => ⟨[aI a], []⟩
def sp7 := spf A7 k7 U7.c U7.v
theorem ok7 : FnOk Tryz.prog T 7 sp7 := fr (E := E7) (call_cons ok16 (call_cons ok24 (call_cons ok25 (call_cons ok26 call_nil)))) Tryz.func7 U7.b U7.vo

def E54 := en [] []
def A54 : Fn [.S, .I, .I, .S] As := fun a b c d => [aV [.s a, .n b, .n c, .s d]]
def k54 : Fn [.S, .I, .I, .S] Res := fun a b c d => ⟨[aV [.s a, .n b, .n c, .s d]], []⟩
def sp54 := spf A54 k54 (ct _) U54.v
theorem ok54 : FnOk Tryz.prog T 54 sp54 := ft (E := E54) call_nil Tryz.func54 U54.b fun (a0, a1, a2, a3, _) => U54.b_eq _ a0 a1 a2 a3

def E18 := en [(54, sp54)] [(3, [0, 3, 4])]
def A18 : Fn [.R] As := fun a => [aH 85 a]
def k18 : Fn [.R] Res := fun a => ⟨[aO 88 a], []⟩
def T18_3 : Fn [.R, .I, .R] Tb := fun a b c => [cH 0 85 a, cA 6 (.own 0), cI 8 b, oR 1 88 c]
def L18_3 (N : Nat) {R : Type} (K : Kt R) := U18.l3 N (J T18_3 (.exit 0) K)
def it18 (N : Nat) {R : Type} : It R := (lp 3 (al T18_3 (fun K => L18_3 N K N) an) ln)
theorem lo18_3 {R : Type} (N : Nat) : LoopOk E18 (it18 N (R := R)) (loopOf Tryz.f18 3) := lq 3 T18_3 (L18_3 N) fun K g => U18.r3 N g (J T18_3 (.exit 0) K)
def sp18 := spf A18 k18 U18.c U18.v
theorem ok18 : FnOk Tryz.prog T 18 sp18 := fq (E := E18) (call_cons ok54 call_nil) Tryz.func18 (it := fun N => it18 N) (fun N => (loops_cons (lo18_3 N) loops_nil)) U18.b U18.vo

def E68 := en [] [(3, [0, 3, 4])]
def A68 : Fn [.R] As := fun a => [aH 9 a]
def k68 : Fn [.R] Res := fun a => ⟨[aO 9 a], []⟩
def T68_3 : Fn [.R, .I, .R] Tb := fun a b c => [cH 0 9 a, cA 6 (.own 0), cI 8 b, oR 1 9 c]
def L68_3 (N : Nat) {R : Type} (K : Kt R) := U68.l3 N (J T68_3 (.exit 0) K)
def it68 (N : Nat) {R : Type} : It R := (lp 3 (al T68_3 (fun K => L68_3 N K N) an) ln)
theorem lo68_3 {R : Type} (N : Nat) : LoopOk E68 (it68 N (R := R)) (loopOf Tryz.f68 3) := lq 3 T68_3 (L68_3 N) fun K g => U68.r3 N g (J T68_3 (.exit 0) K)
def sp68 := spf A68 k68 U68.c U68.v
theorem ok68 : FnOk Tryz.prog T 68 sp68 := fq (E := E68) call_nil Tryz.func68 (it := fun N => it68 N) (fun N => (loops_cons (lo68_3 N) loops_nil)) U68.b U68.vo

def E131 := en [] [(3, [0, 3, 4])]
def A131 : Fn [.R] As := fun a => [aH 3 a]
def k131 : Fn [.R] Res := fun a => ⟨[aO 3 a], []⟩
def T131_3 : Fn [.R, .I, .R] Tb := fun a b c => [cH 0 3 a, cA 6 (.own 0), cI 8 b, oR 1 3 c]
def L131_3 (N : Nat) {R : Type} (K : Kt R) := U131.l3 N (J T131_3 (.exit 0) K)
def it131 (N : Nat) {R : Type} : It R := (lp 3 (al T131_3 (fun K => L131_3 N K N) an) ln)
theorem lo131_3 {R : Type} (N : Nat) : LoopOk E131 (it131 N (R := R)) (loopOf Tryz.f131 3) := lq 3 T131_3 (L131_3 N) fun K g => U131.r3 N g (J T131_3 (.exit 0) K)
def sp131 := spf A131 k131 U131.c U131.v
theorem ok131 : FnOk Tryz.prog T 131 sp131 := fh (E := E131) call_nil Tryz.func131 (it := fun N => it131 N) (fun N => (loops_cons (lo131_3 N) loops_nil)) U131.b fun x f h => U131.b_eq _ x.1 h

def E104 := en [(131, sp131)] [(3, [0, 3, 4])]
def A104 : Fn [.R] As := fun a => [aH 144 a]
def k104 : Fn [.R] Res := fun a => ⟨[aO 144 a], []⟩
def T104_3 : Fn [.R, .I, .R] Tb := fun a b c => [cH 0 144 a, cA 6 (.own 999), cI 8 b, oR 1999 144 c]
def L104_3 (N : Nat) {R : Type} (K : Kt R) := U104.l3 N (J T104_3 (.exit 0) K)
def it104 (N : Nat) {R : Type} : It R := (lp 3 (al T104_3 (fun K => L104_3 N K N) an) ln)
theorem lo104_3 {R : Type} (N : Nat) : LoopOk E104 (it104 N (R := R)) (loopOf Tryz.f104 3) := lq 3 T104_3 (L104_3 N) fun K g => U104.r3 N g (J T104_3 (.exit 0) K)
def sp104 := spf A104 k104 U104.c U104.v
theorem ok104 : FnOk Tryz.prog T 104 sp104 := fq (E := E104) (call_cons ok131 call_nil) Tryz.func104 (it := fun N => it104 N) (fun N => (loops_cons (lo104_3 N) loops_nil)) U104.b U104.vo

def E69 := en [(104, sp104)] []
def A69 : Fn [.R, .I] As := fun a b => [aV [.sh 144 a, .n b]]
def k69 : Fn [.R, .I] Res := fun a b => ⟨[aV [.ow 144 true a, .n b]], []⟩
def sp69 := spf A69 k69 U69.c U69.v
theorem ok69 : FnOk Tryz.prog T 69 sp69 := fr (E := E69) (call_cons ok104 call_nil) Tryz.func69 U69.b U69.vo

def E30 := en [(68, sp68), (69, sp69)] []
def A30 : Fn [.R, .R, .R, .I] As := fun a b c d => [aV [.sh 9 a, .sh 9 b, .sh 144 c, .n d]]
def k30 : Fn [.R, .R, .R, .I] Res := fun a b c d => ⟨[aV [.ow 9 true a, .ow 9 true b, .ow 144 true c, .n d]], []⟩
def sp30 := spf A30 k30 U30.c U30.v
theorem ok30 : FnOk Tryz.prog T 30 sp30 := fr (E := E30) (call_cons ok68 (call_cons ok69 call_nil)) Tryz.func30 U30.b U30.vo

def E70 := en [] []
def A70 : Fn [.S, .S, .I, .I, .I] As := fun a b c d e => [aV [.s a, .s b, .n c, .n d, .n e]]
def k70 : Fn [.S, .S, .I, .I, .I] Res := fun a b c d e => ⟨[aV [.s a, .s b, .n c, .n d, .n e]], []⟩
def sp70 := spf A70 k70 (ct _) U70.v
theorem ok70 : FnOk Tryz.prog T 70 sp70 := ft (E := E70) call_nil Tryz.func70 U70.b fun (a0, a1, a2, a3, a4, _) => U70.b_eq _ a0 a1 a2 a3 a4

def E31 := en [(70, sp70)] [(3, [0, 3, 4])]
def A31 : Fn [.R] As := fun a => [aH 100 a]
def k31 : Fn [.R] Res := fun a => ⟨[aO 64 a], []⟩
def T31_3 : Fn [.R, .I, .R] Tb := fun a b c => [cH 0 100 a, cA 6 (.own 0), cI 8 b, oR 1 64 c]
def L31_3 (N : Nat) {R : Type} (K : Kt R) := U31.l3 N (J T31_3 (.exit 0) K)
def it31 (N : Nat) {R : Type} : It R := (lp 3 (al T31_3 (fun K => L31_3 N K N) an) ln)
theorem lo31_3 {R : Type} (N : Nat) : LoopOk E31 (it31 N (R := R)) (loopOf Tryz.f31 3) := lq 3 T31_3 (L31_3 N) fun K g => U31.r3 N g (J T31_3 (.exit 0) K)
def sp31 := spf A31 k31 U31.c U31.v
theorem ok31 : FnOk Tryz.prog T 31 sp31 := fq (E := E31) (call_cons ok70 call_nil) Tryz.func31 (it := fun N => it31 N) (fun N => (loops_cons (lo31_3 N) loops_nil)) U31.b U31.vo

def E71 := en [] []
def A71 : Fn [.I, .S, .I, .I, .I, .S, .I] As := fun a b c d e f g => [aV [.n a, .s b, .n c, .n d, .n e, .s f, .n g]]
def k71 : Fn [.I, .S, .I, .I, .I, .S, .I] Res := fun a b c d e f g => ⟨[aV [.n a, .s b, .n c, .n d, .n e, .s f, .n g]], []⟩
def sp71 := spf A71 k71 (ct _) U71.v
theorem ok71 : FnOk Tryz.prog T 71 sp71 := ft (E := E71) call_nil Tryz.func71 U71.b fun (a0, a1, a2, a3, a4, a5, a6, _) => U71.b_eq _ a0 a1 a2 a3 a4 a5 a6

def E32 := en [(71, sp71)] [(3, [0, 3, 4])]
def A32 : Fn [.R] As := fun a => [aH 103 a]
def k32 : Fn [.R] Res := fun a => ⟨[aO 106 a], []⟩
def T32_3 : Fn [.R, .I, .R] Tb := fun a b c => [cH 0 103 a, cA 6 (.own 0), cI 8 b, oR 1 106 c]
def L32_3 (N : Nat) {R : Type} (K : Kt R) := U32.l3 N (J T32_3 (.exit 0) K)
def it32 (N : Nat) {R : Type} : It R := (lp 3 (al T32_3 (fun K => L32_3 N K N) an) ln)
theorem lo32_3 {R : Type} (N : Nat) : LoopOk E32 (it32 N (R := R)) (loopOf Tryz.f32 3) := lq 3 T32_3 (L32_3 N) fun K g => U32.r3 N g (J T32_3 (.exit 0) K)
def sp32 := spf A32 k32 U32.c U32.v
theorem ok32 : FnOk Tryz.prog T 32 sp32 := fq (E := E32) (call_cons ok71 call_nil) Tryz.func32 (it := fun N => it32 N) (fun N => (loops_cons (lo32_3 N) loops_nil)) U32.b U32.vo

def E9 := en [(18, sp18), (30, sp30), (31, sp31), (32, sp32)] []
def A9 : Fn [.I, .R, .R, .R, .R, .I, .R, .R, .I] As := fun a b c d e f g h i => [aV [.n a, .sh 85 b, .sh 9 c, .sh 9 d, .sh 144 e, .n f, .sh 100 g, .sh 103 h, .n i]]
def k9 : Fn [.I, .R, .R, .R, .R, .I, .R, .R, .I] Res := fun a b c d e f g h i => ⟨[aV [.n a, .ow 88 true b, .ow 9 true c, .ow 9 true d, .ow 144 true e, .n f, .ow 64 true g, .ow 106 true h, .n i]], []⟩
def sp9 := spf A9 k9 U9.c U9.v
theorem ok9 : FnOk Tryz.prog T 9 sp9 := fr (E := E9) (call_cons ok18 (call_cons ok30 (call_cons ok31 (call_cons ok32 call_nil)))) Tryz.func9 U9.b U9.vo

def E101 := en [] [(3, [1, 2, 3, 4])]
def A101 : Fn [.R, .I] As := fun a b => [aV [.sh 144 a, .n b]]
def k101 : Fn [.R, .I] Res := fun a b => ⟨[aV [.ow 144 true a, .n b]], []⟩
def T101_3 : Fn [.I, .R, .I, .I, .I] Tb := fun a b c d e => [cP 2 0, cP 4 1, cP 6 2, cI 8 a, oB 1 [.sh 144 b, .n c], oB 3 [.nl, .n d], oB 5 [.nl, .n e]]
def T101_3a : Fn [.I, .R, .I, .I, .I, .R] Tb := fun a b c d e f => [cP 2 0, cP 4 1, cP 6 2, cI 8 a, oB 1 [.sh 144 b, .n c], oB 3 [.nl, .n d], oB 5 [.own 3, .n e], oR 7 144 f]
def L101_3 (N : Nat) {R : Type} (K : Kt R) := U101.l3 N (J T101_3 (.exit 0) K) (J T101_3a (.exit 0) K)
def L101_3a (N : Nat) {R : Type} (K : Kt R) := U101.l3a N (J T101_3 (.exit 0) K) (J T101_3a (.exit 0) K)
def it101 (N : Nat) {R : Type} : It R := (lp 3 (al T101_3 (fun K => L101_3 N K N) (al T101_3a (fun K => L101_3a N K N) an)) ln)
theorem w101_3a {R : Type} (N : Nat) (K : Kt R) : Wd E101 (it101 N) (loopOf Tryz.f101 3) 3 K T101_3a (L101_3a N K) := lw (fun g => U101.r3a N (cmp _ T101_3 (g ∘ tabl)) (cmp _ T101_3a (g ∘ tabl)) (J T101_3 (.exit 0) K) (J T101_3a (.exit 0) K)) fun m i => by simp only [Function.comp_def, wf i]; rfl
theorem w101_3 {R : Type} (N : Nat) (K : Kt R) : Wd E101 (it101 N) (loopOf Tryz.f101 3) 3 K T101_3 (L101_3 N K) := lw (fun g => U101.r3 N (cmp _ T101_3 (g ∘ tabl)) (cmp _ T101_3a (g ∘ tabl)) (J T101_3 (.exit 0) K) (J T101_3a (.exit 0) K)) fun m i => by simp only [Function.comp_def, wf i, wf (w101_3a N K m)]; rfl
theorem lo101_3 {R : Type} (N : Nat) : LoopOk E101 (it101 N (R := R)) (loopOf Tryz.f101 3) := lm 3 (ga T101_3 (w101_3 N) (ga T101_3a (w101_3a N) good_an))
def sp101 := spf A101 k101 U101.c U101.v
theorem ok101 : FnOk Tryz.prog T 101 sp101 := fq (E := E101) call_nil Tryz.func101 (it := fun N => it101 N) (fun N => (loops_cons (lo101_3 N) loops_nil)) U101.b U101.vo

def E66 := en [(101, sp101)] []
def A66 : Fn [.R, .R, .R, .I] As := fun a b c d => [aV [.sh 9 a, .sh 9 b, .sh 144 c, .n d]]
def k66 : Fn [.R, .R, .R, .I] Res := fun a b c d => ⟨[aV [.ow 9 true a, .ow 9 true b, .ow 144 true c, .n d]], []⟩
def sp66 := spf A66 k66 U66.c U66.v
theorem ok66 : FnOk Tryz.prog T 66 sp66 := fr (E := E66) (call_cons ok101 call_nil) Tryz.func66 U66.b U66.vo

def E27 := en [(66, sp66)] []
def A27 : Fn [.I, .R, .R, .R, .R, .I, .R, .R, .I] As := fun a b c d e f g h i => [aV [.n a, .sh 88 b, .sh 9 c, .sh 9 d, .sh 144 e, .n f, .sh 64 g, .sh 106 h, .n i]]
def k27 : Fn [.I, .R, .R, .R, .R, .I, .R, .R, .I] Res := fun a b c d e f g h i => ⟨[aV [.n a, .ow 88 true b, .ow 9 true c, .ow 9 true d, .ow 144 true e, .n f, .ow 64 true g, .ow 106 true h, .n i]], []⟩
def sp27 := spf A27 k27 U27.c U27.v
theorem ok27 : FnOk Tryz.prog T 27 sp27 := fr (E := E27) (call_cons ok66 call_nil) Tryz.func27 U27.b U27.vo

def E60 := en [] []
def A60 : Fn [.I, .I, .I] As := fun a b c => [aI a, aI b, aI c]
def k60 : Fn [.B] Res := fun a => ⟨[aB a], []⟩
def sp60 := spf A60 k60 (ct _) U60.v
theorem ok60 : FnOk Tryz.prog T 60 sp60 := ft (E := E60) call_nil Tryz.func60 U60.b fun (a0, a1, a2, _) => U60.b_eq _ a0 a1 a2

def E88 := en [(60, sp60)] []
def A88 : Fn [.S] As := fun a => [aS a]
def k88 : Fn [.B] Res := fun a => ⟨[aB a], []⟩
def sp88 := spf A88 k88 (ct _) U88.v
theorem ok88 : FnOk Tryz.prog T 88 sp88 := ft (E := E88) (call_cons ok60 call_nil) Tryz.func88 U88.b fun (a0, _) => U88.b_eq _ a0

def E51 := en [(88, sp88), (60, sp60)] []
def A51 : Fn [.S, .I, .I, .S] As := fun a b c d => [aV [.s a, .n b, .n c, .s d]]
def k51 : Fn [.B] Res := fun a => ⟨[aB a], []⟩
def sp51 := spf A51 k51 (ct _) U51.v
theorem ok51 : FnOk Tryz.prog T 51 sp51 := ft (E := E51) (call_cons ok88 (call_cons ok60 call_nil)) Tryz.func51 U51.b fun (a0, a1, a2, a3, _) => U51.b_eq _ a0 a1 a2 a3

def E116 := en [] [(2, [0, 1, 4, 5])]
def A116 : Fn [.R, .S] As := fun a b => [aH 9 a, aS b]
def k116 : Fn [.B] Res := fun a => ⟨[aB a], []⟩
def T116_2 : Fn [.R, .S, .B, .I] Tb := fun a b c d => [cH 0 9 a, cA 2 (.s b), cA 8 (.b c), cI 10 d]
def L116_2 (N : Nat) {R : Type} (K : Kt R) := U116.l2 N (J T116_2 .ret K) (J T116_2 (.exit 0) K)
def it116 (N : Nat) {R : Type} : It R := (lp 2 (al T116_2 (fun K => L116_2 N K N) an) ln)
theorem lo116_2 {R : Type} (N : Nat) : LoopOk E116 (it116 N (R := R)) (loopOf Tryz.f116 2) := lq 2 T116_2 (L116_2 N) fun K g => U116.r2 N g (J T116_2 .ret K) (J T116_2 (.exit 0) K)
def sp116 := spf A116 k116 U116.c U116.v
theorem ok116 : FnOk Tryz.prog T 116 sp116 := fq (E := E116) call_nil Tryz.func116 (it := fun N => it116 N) (fun N => (loops_cons (lo116_2 N) loops_nil)) U116.b U116.vo

def E91 := en [(116, sp116)] []
def A91 : Fn [.R, .R, .R, .I, .S] As := fun a b c d e => [aV [.sh 9 a, .sh 9 b, .sh 144 c, .n d], aS e]
def k91 : Fn [.B] Res := fun a => ⟨[aB a], []⟩
def sp91 := spf A91 k91 U91.c U91.v
theorem ok91 : FnOk Tryz.prog T 91 sp91 := fr (E := E91) (call_cons ok116 call_nil) Tryz.func91 U91.b U91.vo

def E137 := en [(60, sp60)] [(4, [1, 2, 3]), (9, [1, 2, 3, 4])]
def A137 : Fn [.R, .I] As := fun a b => [aV [.sh 144 a, .n b]]
def k137 : Fn [.B] Res := fun a => ⟨[aB a], []⟩
def T137_4 : Fn [.B, .I, .R, .I] Tb := fun a b c d => [cP 2 0, cA 4 (.b a), cI 6 b, oB 1 [.sh 144 c, .n d]]
def T137_9 : Fn [.B, .I, .I, .R, .I] Tb := fun a b c d e => [cP 2 0, cA 4 (.b a), cI 6 b, cI 8 c, oB 1 [.sh 144 d, .n e]]
def L137_4 (N : Nat) {R : Type} (K : Kt R) := U137.l4 N (J T137_4 .ret K) (J T137_4 (.exit 0) K)
def L137_9 (N : Nat) {R : Type} (K : Kt R) := U137.l9 N (J T137_9 .ret K) (J T137_9 (.exit 2) K)
def it137 (N : Nat) {R : Type} : It R := (lp 4 (al T137_4 (fun K => L137_4 N K N) an) (lp 9 (al T137_9 (fun K => L137_9 N K N) an) ln))
theorem lo137_4 {R : Type} (N : Nat) : LoopOk E137 (it137 N (R := R)) (loopOf Tryz.f137 4) := lq 4 T137_4 (L137_4 N) fun K g => U137.r4 N g (J T137_4 .ret K) (J T137_4 (.exit 0) K)
theorem lo137_9 {R : Type} (N : Nat) : LoopOk E137 (it137 N (R := R)) (loopOf Tryz.f137 9) := lq 9 T137_9 (L137_9 N) fun K g => U137.r9 N g (J T137_9 .ret K) (J T137_9 (.exit 2) K)
def sp137 := spf A137 k137 U137.c U137.v
theorem ok137 : FnOk Tryz.prog T 137 sp137 := fq (E := E137) (call_cons ok60 call_nil) Tryz.func137 (it := fun N => it137 N) (fun N => (loops_cons (lo137_4 N) (loops_cons (lo137_9 N) loops_nil))) U137.b U137.vo

def E114 := en [(88, sp88), (116, sp116), (137, sp137)] [(3, [1, 2, 3, 4])]
def A114 : Fn [.R, .R, .R, .I] As := fun a b c d => [aV [.sh 9 a, .sh 9 b, .sh 144 c, .n d]]
def k114 : Fn [.B] Res := fun a => ⟨[aB a], []⟩
def T114_3 : Fn [.B, .I, .R, .R, .R, .I, .R] Tb := fun a b c d e f g => [cP 2 0, cA 4 (.b a), cA 6 (.own 1), cI 8 b, oB 1 [.sh 9 c, .sh 9 d, .sh 144 e, .n f], oR 3 9 g]
def L114_3 (N : Nat) {R : Type} (K : Kt R) := U114.l3 N (J T114_3 .ret K) (J T114_3 (.exit 0) K)
def it114 (N : Nat) {R : Type} : It R := (lp 3 (al T114_3 (fun K => L114_3 N K N) an) ln)
theorem lo114_3 {R : Type} (N : Nat) : LoopOk E114 (it114 N (R := R)) (loopOf Tryz.f114 3) := lq 3 T114_3 (L114_3 N) fun K g => U114.r3 N g (J T114_3 .ret K) (J T114_3 (.exit 0) K)
def sp114 := spf A114 k114 U114.c U114.v
theorem ok114 : FnOk Tryz.prog T 114 sp114 := fq (E := E114) (call_cons ok88 (call_cons ok116 (call_cons ok137 call_nil))) Tryz.func114 (it := fun N => it114 N) (fun N => (loops_cons (lo114_3 N) loops_nil)) U114.b U114.vo

def E102 := en [(51, sp51), (91, sp91), (114, sp114)] [(2, [1, 2, 3])]
def A102 : Fn [.I, .R, .R, .R, .R, .I, .R, .R, .I] As := fun a b c d e f g h i => [aV [.n a, .sh 88 b, .sh 9 c, .sh 9 d, .sh 144 e, .n f, .sh 64 g, .sh 106 h, .n i]]
def k102 : Fn [.B] Res := fun a => ⟨[aB a], []⟩
def T102_2 : Fn [.B, .I, .I, .R, .R, .R, .R, .I, .R, .R, .I] Tb := fun a b c d e f g h i j k => [cP 2 0, cA 4 (.b a), cI 6 b, oB 1 [.n c, .sh 88 d, .sh 9 e, .sh 9 f, .sh 144 g, .n h, .sh 64 i, .sh 106 j, .n k]]
def L102_2 (N : Nat) {R : Type} (K : Kt R) := U102.l2 N (J T102_2 .ret K) (J T102_2 (.exit 0) K)
def it102 (N : Nat) {R : Type} : It R := (lp 2 (al T102_2 (fun K => L102_2 N K N) an) ln)
theorem lo102_2 {R : Type} (N : Nat) : LoopOk E102 (it102 N (R := R)) (loopOf Tryz.f102 2) := lq 2 T102_2 (L102_2 N) fun K g => U102.r2 N g (J T102_2 .ret K) (J T102_2 (.exit 0) K)
def sp102 := spf A102 k102 U102.c U102.v
theorem ok102 : FnOk Tryz.prog T 102 sp102 := fq (E := E102) (call_cons ok51 (call_cons ok91 (call_cons ok114 call_nil))) Tryz.func102 (it := fun N => it102 N) (fun N => (loops_cons (lo102_2 N) loops_nil)) U102.b U102.vo

def E103 := en [(88, sp88), (60, sp60)] [(5, [1, 2, 4, 5, 6])]
def A103 : Fn [.I, .R, .R, .R, .R, .I, .R, .R, .I, .I] As := fun a b c d e f g h i j => [aV [.n a, .sh 88 b, .sh 9 c, .sh 9 d, .sh 144 e, .n f, .sh 64 g, .sh 106 h, .n i], aI j]
def k103 : Fn [.B] Res := fun a => ⟨[aB a], []⟩
def T103_5 : Fn [.I, .B, .I, .I, .R, .R, .R, .R, .I, .R, .R, .I, .S, .S, .I, .I, .I] Tb := fun a b c d e f g h i j k l m o p q r => [cI 2 a, cP 4 0, cA 8 (.b b), cP 10 1, cI 12 c, oB 1 [.n d, .sh 88 e, .sh 9 f, .sh 9 g, .sh 144 h, .n i, .sh 64 j, .sh 106 k, .n l], oB 3 [.s m, .s o, .n p, .n q, .n r]]
def L103_5 (N : Nat) {R : Type} (K : Kt R) := U103.l5 N (J T103_5 .ret K) (J T103_5 (.exit 0) K)
def it103 (N : Nat) {R : Type} : It R := (lp 5 (al T103_5 (fun K => L103_5 N K N) an) ln)
theorem lo103_5 {R : Type} (N : Nat) : LoopOk E103 (it103 N (R := R)) (loopOf Tryz.f103 5) := lq 5 T103_5 (L103_5 N) fun K g => U103.r5 N g (J T103_5 .ret K) (J T103_5 (.exit 0) K)
def sp103 := spf A103 k103 U103.c U103.v
theorem ok103 : FnOk Tryz.prog T 103 sp103 := fq (E := E103) (call_cons ok88 (call_cons ok60 call_nil)) Tryz.func103 (it := fun N => it103 N) (fun N => (loops_cons (lo103_5 N) loops_nil)) U103.b U103.vo

def E67 := en [(60, sp60), (102, sp102), (103, sp103), (88, sp88)] [(4, [1, 2, 3]), (9, [1, 2, 4])]
def A67 : Fn [.I, .R, .R, .R, .R, .I, .R, .R, .I] As := fun a b c d e f g h i => [aV [.n a, .sh 88 b, .sh 9 c, .sh 9 d, .sh 144 e, .n f, .sh 64 g, .sh 106 h, .n i]]
def k67 : Fn [.B] Res := fun a => ⟨[aB a], []⟩
def T67_4 : Fn [.B, .I, .I, .R, .R, .R, .R, .I, .R, .R, .I] Tb := fun a b c d e f g h i j k => [cP 2 0, cA 4 (.b a), cI 6 b, oB 1 [.n c, .sh 88 d, .sh 9 e, .sh 9 f, .sh 144 g, .n h, .sh 64 i, .sh 106 j, .n k]]
def T67_9 : Fn [.B, .I, .I, .R, .R, .R, .R, .I, .R, .R, .I] Tb := fun a b c d e f g h i j k => [cP 2 0, cA 4 (.b a), cI 8 b, oB 1 [.n c, .sh 88 d, .sh 9 e, .sh 9 f, .sh 144 g, .n h, .sh 64 i, .sh 106 j, .n k]]
def L67_4 (N : Nat) {R : Type} (K : Kt R) := U67.l4 N (J T67_4 .ret K) (J T67_4 (.exit 0) K)
def L67_9 (N : Nat) {R : Type} (K : Kt R) := U67.l9 N (J T67_9 .ret K) (J T67_9 (.exit 2) K)
def it67 (N : Nat) {R : Type} : It R := (lp 4 (al T67_4 (fun K => L67_4 N K N) an) (lp 9 (al T67_9 (fun K => L67_9 N K N) an) ln))
theorem lo67_4 {R : Type} (N : Nat) : LoopOk E67 (it67 N (R := R)) (loopOf Tryz.f67 4) := lq 4 T67_4 (L67_4 N) fun K g => U67.r4 N g (J T67_4 .ret K) (J T67_4 (.exit 0) K)
theorem lo67_9 {R : Type} (N : Nat) : LoopOk E67 (it67 N (R := R)) (loopOf Tryz.f67 9) := lq 9 T67_9 (L67_9 N) fun K g => U67.r9 N g (J T67_9 .ret K) (J T67_9 (.exit 2) K)
def sp67 := spf A67 k67 U67.c U67.v
theorem ok67 : FnOk Tryz.prog T 67 sp67 := fq (E := E67) (call_cons ok60 (call_cons ok102 (call_cons ok103 (call_cons ok88 call_nil)))) Tryz.func67 (it := fun N => it67 N) (fun N => (loops_cons (lo67_4 N) (loops_cons (lo67_9 N) loops_nil))) U67.b U67.vo

def E28 := en [(67, sp67), (60, sp60)] []
def A28 : Fn [.I, .R, .R, .R, .R, .I, .R, .R, .I, .I] As := fun a b c d e f g h i j => [aV [.n a, .sh 88 b, .sh 9 c, .sh 9 d, .sh 144 e, .n f, .sh 64 g, .sh 106 h, .n i], aI j]
def k28 : Fn [.B] Res := fun a => ⟨[aB a], []⟩
def sp28 := spf A28 k28 U28.c U28.v
theorem ok28 : FnOk Tryz.prog T 28 sp28 := fr (E := E28) (call_cons ok67 (call_cons ok60 call_nil)) Tryz.func28 U28.b U28.vo

def E29 := en [] [(1, [0, 1, 2, 6])]
def A29 : Fn [.I, .R, .R, .R, .R, .I, .R, .R, .I, .I, .I] As := fun a b c d e f g h i j k => [.pt [.n a, .ow 88 true b, .ow 9 true c, .ow 9 true d, .ow 144 true e, .n f, .ow 64 true g, .ow 106 true h, .n i], aI j, aI k]
def k29 : Fn [.I, .R, .R, .R, .R, .I, .R, .R, .I] Res := fun a b c d e f g h i => ⟨[], [[.n a, .kp b, .kp c, .kp d, .kp e, .n f, .kp g, .kp h, .n i]]⟩
def T29_1 : Fn [.I, .I, .I, .I, .I, .I, .R, .R, .R, .R, .R, .R] Tb := fun a b c d e f g h i j k l => [cP 0 900000900, cI 2 a, cI 4 b, cI 12 c, oB 1800001801 [.n d, .own 900000001, .own 900000002, .own 900000003, .own 900000004, .n e, .own 900000006, .own 900000007, .n f], oR 1800000003 88 g, oR 1800000005 9 h, oR 1800000007 9 i, oR 1800000009 144 j, oR 1800000013 64 k, oR 1800000015 106 l]
def L29_1 (N : Nat) {R : Type} (K : Kt R) := U29.l1 N (J T29_1 (.exit 0) K)
def it29 (N : Nat) {R : Type} : It R := (lp 1 (al T29_1 (fun K => L29_1 N K N) an) ln)
theorem lo29_1 {R : Type} (N : Nat) : LoopOk E29 (it29 N (R := R)) (loopOf Tryz.f29 1) := lq 1 T29_1 (L29_1 N) fun K g => U29.r1 N g (J T29_1 (.exit 0) K)
def sp29 := spf A29 k29 U29.c U29.v
theorem ok29 : FnOk Tryz.prog T 29 sp29 := fq (E := E29) call_nil Tryz.func29 (it := fun N => it29 N) (fun N => (loops_cons (lo29_1 N) loops_nil)) U29.b U29.vo

def E156 := en [] [(2, [0, 1, 5]), (6, [0, 1, 5, 6])]
def A156 : Fn [.I, .S] As := fun a b => [.v false [.i .u32 a], aS b]
def k156 : Fn [.I] Res := fun a => ⟨[.v false [.i .u32 a]], []⟩
def T156_2 : Fn [.I, .S, .I] Tb := fun a b c => [cA 0 (.i .u32 a), cA 2 (.s b), cI 10 c]
def T156_6 : Fn [.I, .S, .I, .I] Tb := fun a b c d => [cA 0 (.i .u32 a), cA 2 (.s b), cI 10 c, cI 12 d]
def L156_2 (N : Nat) {R : Type} (K : Kt R) := U156.l2 N (J T156_2 (.exit 0) K)
def L156_6 (N : Nat) {R : Type} (K : Kt R) := U156.l6 N (J T156_6 (.exit 2) K)
def it156 (N : Nat) {R : Type} : It R := (lp 2 (al T156_2 (fun K => L156_2 N K N) an) (lp 6 (al T156_6 (fun K => L156_6 N K N) an) ln))
theorem lo156_2 {R : Type} (N : Nat) : LoopOk E156 (it156 N (R := R)) (loopOf Tryz.f156 2) := lq 2 T156_2 (L156_2 N) fun K g => U156.r2 N g (J T156_2 (.exit 0) K)
theorem lo156_6 {R : Type} (N : Nat) : LoopOk E156 (it156 N (R := R)) (loopOf Tryz.f156 6) := lq 6 T156_6 (L156_6 N) fun K g => U156.r6 N g (J T156_6 (.exit 2) K)
def sp156 := spf A156 k156 U156.c U156.v
theorem ok156 : FnOk Tryz.prog T 156 sp156 := fq (E := E156) call_nil Tryz.func156 (it := fun N => it156 N) (fun N => (loops_cons (lo156_2 N) (loops_cons (lo156_6 N) loops_nil))) U156.b U156.vo

def E149 := en [(156, sp156)] []
def A149 : Fn [.S] As := fun a => [aS a]
def k149 : Fn [.I] Res := fun a => ⟨[.v false [.i .u32 a]], []⟩
def sp149 := spf A149 k149 U149.c U149.v
theorem ok149 : FnOk Tryz.prog T 149 sp149 := fr (E := E149) (call_cons ok156 call_nil) Tryz.func149 U149.b U149.vo

def E138 := en [(149, sp149)] []
def A138 : Fn [.I, .S] As := fun a b => [aI a, aS b]
def k138 : Fn [.I] Res := fun a => ⟨[aI a], []⟩
def sp138 := spf A138 k138 U138.c U138.v
theorem ok138 : FnOk Tryz.prog T 138 sp138 := fr (E := E138) (call_cons ok149 call_nil) Tryz.func138 U138.b U138.vo

def E115 := en [(101, sp101), (137, sp137), (138, sp138)] [(5, [1, 4, 5, 6]), (14, [4, 5, 8]), (17, [4, 5, 8, 9])]
def A115 : Fn [.R, .I, .S] As := fun a b c => [aV [.sh 144 a, .n b], aS c]
def k115 : Fn [.R, .I] Res := fun a b => ⟨[aV [.ow 144 true a, .n b]], []⟩
def T115_5 : Fn [.S, .I, .I, .I, .R] Tb := fun a b c d e => [cA 2 (.s a), cP 8 0, cP 10 1, cI 12 b, oB 1 [.nl, .n c], oB 3 [.own 2, .n d], oR 5 144 e]
def T115_14 : Fn [.I, .I, .I, .R] Tb := fun a b c d => [cP 8 0, cP 10 1, cI 16 a, oB 1 [.nl, .n b], oB 3 [.own 2, .n c], oR 5 144 d]
def T115_17 : Fn [.I, .I, .I, .I, .R] Tb := fun a b c d e => [cP 8 0, cP 10 1, cI 16 a, cI 18 b, oB 1 [.nl, .n c], oB 3 [.own 2, .n d], oR 5 144 e]
def L115_5 (N : Nat) {R : Type} (K : Kt R) := U115.l5 N (J T115_5 (.exit 0) K)
def L115_14 (N : Nat) {R : Type} (K : Kt R) := U115.l14 N (J T115_14 (.exit 2) K)
def L115_17 (N : Nat) {R : Type} (K : Kt R) := U115.l17 N (J T115_17 (.exit 4) K)
def it115 (N : Nat) {R : Type} : It R := (lp 5 (al T115_5 (fun K => L115_5 N K N) an) (lp 14 (al T115_14 (fun K => L115_14 N K N) an) (lp 17 (al T115_17 (fun K => L115_17 N K N) an) ln)))
theorem lo115_5 {R : Type} (N : Nat) : LoopOk E115 (it115 N (R := R)) (loopOf Tryz.f115 5) := lq 5 T115_5 (L115_5 N) fun K g => U115.r5 N g (J T115_5 (.exit 0) K)
theorem lo115_14 {R : Type} (N : Nat) : LoopOk E115 (it115 N (R := R)) (loopOf Tryz.f115 14) := lq 14 T115_14 (L115_14 N) fun K g => U115.r14 N g (J T115_14 (.exit 2) K)
theorem lo115_17 {R : Type} (N : Nat) : LoopOk E115 (it115 N (R := R)) (loopOf Tryz.f115 17) := lq 17 T115_17 (L115_17 N) fun K g => U115.r17 N g (J T115_17 (.exit 4) K)
def sp115 := spf A115 k115 U115.c U115.v
theorem ok115 : FnOk Tryz.prog T 115 sp115 := fq (E := E115) (call_cons ok101 (call_cons ok137 (call_cons ok138 call_nil))) Tryz.func115 (it := fun N => it115 N) (fun N => (loops_cons (lo115_5 N) (loops_cons (lo115_14 N) (loops_cons (lo115_17 N) loops_nil)))) U115.b U115.vo

def E117 := en [] [(3, [0, 1, 5, 6])]
def A117 : Fn [.R, .S] As := fun a b => [aH 9 a, aS b]
def k117 : Fn [.R] Res := fun a => ⟨[aO 9 a], []⟩
def T117_3 : Fn [.R, .S, .I, .R] Tb := fun a b c d => [cH 0 9 a, cA 2 (.s b), cA 10 (.own 0), cI 12 c, oR 1 9 d]
def L117_3 (N : Nat) {R : Type} (K : Kt R) := U117.l3 N (J T117_3 (.exit 0) K)
def it117 (N : Nat) {R : Type} : It R := (lp 3 (al T117_3 (fun K => L117_3 N K N) an) ln)
theorem lo117_3 {R : Type} (N : Nat) : LoopOk E117 (it117 N (R := R)) (loopOf Tryz.f117 3) := lq 3 T117_3 (L117_3 N) fun K g => U117.r3 N g (J T117_3 (.exit 0) K)
def sp117 := spf A117 k117 U117.c U117.v
theorem ok117 : FnOk Tryz.prog T 117 sp117 := fq (E := E117) call_nil Tryz.func117 (it := fun N => it117 N) (fun N => (loops_cons (lo117_3 N) loops_nil)) U117.b U117.vo

def E118 := en [(137, sp137), (138, sp138)] [(5, [1, 2, 5, 6])]
def A118 : Fn [.R, .I, .S] As := fun a b c => [aV [.sh 144 a, .n b], aS c]
def k118 : Fn [.I] Res := fun a => ⟨[aI a], []⟩
def T118_5 : Fn [.S, .I, .I, .R, .I] Tb := fun a b c d e => [cA 2 (.s a), cP 4 0, cI 10 b, cI 12 c, oB 1 [.sh 144 d, .n e]]
def L118_5 (N : Nat) {R : Type} (K : Kt R) := U118.l5 N (J T118_5 (.exit 0) K)
def it118 (N : Nat) {R : Type} : It R := (lp 5 (al T118_5 (fun K => L118_5 N K N) an) ln)
theorem lo118_5 {R : Type} (N : Nat) : LoopOk E118 (it118 N (R := R)) (loopOf Tryz.f118 5) := lq 5 T118_5 (L118_5 N) fun K g => U118.r5 N g (J T118_5 (.exit 0) K)
def sp118 := spf A118 k118 U118.c U118.v
theorem ok118 : FnOk Tryz.prog T 118 sp118 := fq (E := E118) (call_cons ok137 (call_cons ok138 call_nil)) Tryz.func118 (it := fun N => it118 N) (fun N => (loops_cons (lo118_5 N) loops_nil)) U118.b U118.vo

def E89 := en [(66, sp66), (114, sp114), (88, sp88), (115, sp115), (116, sp116), (117, sp117), (118, sp118)] []
def A89 : Fn [.R, .R, .R, .I, .S] As := fun a b c d e => [aV [.sh 9 a, .sh 9 b, .sh 144 c, .n d], aS e]
def k89 : Fn [.R, .R, .R, .I, .S] Res := fun a b c d e => ⟨[aV [.ow 9 true a, .ow 9 true b, .ow 144 true c, .n d], aS e], []⟩
def sp89 := spf A89 k89 U89.c U89.v
theorem ok89 : FnOk Tryz.prog T 89 sp89 := fr (E := E89) (call_cons ok66 (call_cons ok114 (call_cons ok88 (call_cons ok115 (call_cons ok116 (call_cons ok117 (call_cons ok118 call_nil))))))) Tryz.func89 U89.b U89.vo

def E90 := en [] [(3, [0, 1, 5, 6])]
def A90 : Fn [.R, .S] As := fun a b => [aH 88 a, aS b]
def k90 : Fn [.R] Res := fun a => ⟨[aO 88 a], []⟩
def T90_3 : Fn [.R, .S, .I, .R] Tb := fun a b c d => [cH 0 88 a, cA 2 (.s b), cA 10 (.own 0), cI 12 c, oR 1 88 d]
def L90_3 (N : Nat) {R : Type} (K : Kt R) := U90.l3 N (J T90_3 (.exit 0) K)
def it90 (N : Nat) {R : Type} : It R := (lp 3 (al T90_3 (fun K => L90_3 N K N) an) ln)
theorem lo90_3 {R : Type} (N : Nat) : LoopOk E90 (it90 N (R := R)) (loopOf Tryz.f90 3) := lq 3 T90_3 (L90_3 N) fun K g => U90.r3 N g (J T90_3 (.exit 0) K)
def sp90 := spf A90 k90 U90.c U90.v
theorem ok90 : FnOk Tryz.prog T 90 sp90 := fq (E := E90) call_nil Tryz.func90 (it := fun N => it90 N) (fun N => (loops_cons (lo90_3 N) loops_nil)) U90.b U90.vo

def E92 := en [] [(3, [0, 3, 5, 6]), (9, [0, 3, 5, 7])]
def A92 : Fn [.R, .S, .I, .I, .S] As := fun a b c d e => [aH 88 a, aV [.s b, .n c, .n d, .s e]]
def k92 : Fn [.R] Res := fun a => ⟨[aO 88 a], []⟩
def T92_3 : Fn [.R, .I, .S, .I, .I, .S, .R] Tb := fun a b c d e f g => [cH 0 88 a, cP 6 0, cA 10 (.own 1), cI 12 b, oB 1 [.s c, .n d, .n e, .s f], oR 3 88 g]
def T92_9 : Fn [.R, .I, .S, .I, .I, .S, .R] Tb := fun a b c d e f g => [cH 0 88 a, cP 6 0, cA 10 (.own 1), cI 14 b, oB 1 [.s c, .n d, .n e, .s f], oR 3 88 g]
def L92_3 (N : Nat) {R : Type} (K : Kt R) := U92.l3 N (J T92_3 (.exit 0) K)
def L92_9 (N : Nat) {R : Type} (K : Kt R) := U92.l9 N (J T92_9 (.exit 2) K)
def it92 (N : Nat) {R : Type} : It R := (lp 3 (al T92_3 (fun K => L92_3 N K N) an) (lp 9 (al T92_9 (fun K => L92_9 N K N) an) ln))
theorem lo92_3 {R : Type} (N : Nat) : LoopOk E92 (it92 N (R := R)) (loopOf Tryz.f92 3) := lq 3 T92_3 (L92_3 N) fun K g => U92.r3 N g (J T92_3 (.exit 0) K)
theorem lo92_9 {R : Type} (N : Nat) : LoopOk E92 (it92 N (R := R)) (loopOf Tryz.f92 9) := lq 9 T92_9 (L92_9 N) fun K g => U92.r9 N g (J T92_9 (.exit 2) K)
def sp92 := spf A92 k92 U92.c U92.v
theorem ok92 : FnOk Tryz.prog T 92 sp92 := fq (E := E92) call_nil Tryz.func92 (it := fun N => it92 N) (fun N => (loops_cons (lo92_3 N) (loops_cons (lo92_9 N) loops_nil))) U92.b U92.vo

def E53 := mkE T md [(89, sp89), (90, sp90), (91, sp91), (92, sp92)] [] [] [(0, 1, .own 88), (0, 2, .own 9), (0, 3, .own 9), (0, 4, .own 144)]
def A53 : Fn [.I, .R, .R, .R, .R, .I, .R, .R, .I, .S, .I, .I, .S] As := fun a b c d e f g h i j k l m => [.pt [.n a, .ow 88 true b, .ow 9 true c, .ow 9 true d, .ow 144 true e, .n f, .ow 64 true g, .ow 106 true h, .n i], aV [.s j, .n k, .n l, .s m]]
def k53 : Fn [.I, .R, .R, .R, .R, .I, .R, .R, .I] Res := fun a b c d e f g h i => ⟨[], [[.n a, .ow 88 true b, .ow 9 true c, .ow 9 true d, .ow 144 true e, .n f, .kp g, .kp h, .n i]]⟩
def sp53 := spf A53 k53 U53.c U53.v
theorem ok53 : FnOk Tryz.prog T 53 sp53 := fr (E := E53) (call_cons ok89 (call_cons ok90 (call_cons ok91 (call_cons ok92 call_nil)))) Tryz.func53 U53.b U53.vo

def E22 := en [(27, sp27), (28, sp28), (60, sp60), (29, sp29), (53, sp53)] []
def A22 : Fn [.I, .R, .R, .R, .R, .I, .R, .R, .I, .I, .I] As := fun a b c d e f g h i j k => [aV [.n a, .sh 88 b, .sh 9 c, .sh 9 d, .sh 144 e, .n f, .sh 64 g, .sh 106 h, .n i], aI j, aI k]
def k22 : Fn [.I, .R, .R, .R, .R, .I, .R, .R, .I, .B] Res := fun a b c d e f g h i j => ⟨[aV [.n a, .ow 88 true b, .ow 9 true c, .ow 9 true d, .ow 144 true e, .n f, .ow 64 true g, .ow 106 true h, .n i], aB j], []⟩
def sp22 := spf A22 k22 U22.c U22.v
theorem ok22 : FnOk Tryz.prog T 22 sp22 := fr (E := E22) (call_cons ok27 (call_cons ok28 (call_cons ok60 (call_cons ok29 (call_cons ok53 call_nil))))) Tryz.func22 U22.b U22.vo

def E72 := en [] []
def A72 : Fn [.R] As := fun a => [aH 88 a]
def k72 : Fn [.R] Res := fun a => ⟨[aO 88 a], []⟩
def sp72 := spf A72 k72 U72.c U72.v
theorem ok72 : FnOk Tryz.prog T 72 sp72 := fr (E := E72) call_nil Tryz.func72 U72.b U72.vo

def E105 := en [] []
def A105 : Fn [.R] As := fun a => [aH 9 a]
def k105 : Fn [.R] Res := fun a => ⟨[aO 9 a], []⟩
def sp105 := spf A105 k105 U105.c U105.v
theorem ok105 : FnOk Tryz.prog T 105 sp105 := fr (E := E105) call_nil Tryz.func105 U105.b U105.vo

def E132 := en [] []
def A132 : Fn [.R] As := fun a => [aH 3 a]
def k132 : Fn [.R] Res := fun a => ⟨[aO 3 a], []⟩
def sp132 := spf A132 k132 U132.c U132.v
theorem ok132 : FnOk Tryz.prog T 132 sp132 := fr (E := E132) call_nil Tryz.func132 U132.b U132.vo

def E106 := en [(132, sp132)] [(3, [2, 3, 10, 11, 12])]
def A106 : Fn [.R, .I] As := fun a b => [aV [.sh 144 a, .n b]]
def k106 : Fn [.R, .I] Res := fun a b => ⟨[aV [.ow 144 true a, .n b]], []⟩
def T106_3 : Fn [.R, .I, .I, .I, .I] Tb := fun a b c d e => [cP 4 0, cP 6 1, cH 20 144 a, cI 22 b, cI 24 c, oB 1 [.nl, .n d], oB 3 [.nl, .n e]]
def T106_3a : Fn [.R, .I, .I, .I, .I, .R] Tb := fun a b c d e f => [cP 4 0, cP 6 1, cH 20 144 a, cI 22 b, cI 24 c, oB 1 [.nl, .n d], oB 3 [.own 2, .n e], oR 5 144 f]
def L106_3 (N : Nat) {R : Type} (K : Kt R) := U106.l3 N (J T106_3 (.exit 0) K) (J T106_3a (.exit 0) K)
def L106_3a (N : Nat) {R : Type} (K : Kt R) := U106.l3a N (J T106_3 (.exit 0) K) (J T106_3a (.exit 0) K)
def it106 (N : Nat) {R : Type} : It R := (lp 3 (al T106_3 (fun K => L106_3 N K N) (al T106_3a (fun K => L106_3a N K N) an)) ln)
theorem w106_3a {R : Type} (N : Nat) (K : Kt R) : Wd E106 (it106 N) (loopOf Tryz.f106 3) 3 K T106_3a (L106_3a N K) := lw (fun g => U106.r3a N (cmp _ T106_3 (g ∘ tabl)) (cmp _ T106_3a (g ∘ tabl)) (J T106_3 (.exit 0) K) (J T106_3a (.exit 0) K)) fun m i => by simp only [Function.comp_def, wf i]; rfl
theorem w106_3 {R : Type} (N : Nat) (K : Kt R) : Wd E106 (it106 N) (loopOf Tryz.f106 3) 3 K T106_3 (L106_3 N K) := lw (fun g => U106.r3 N (cmp _ T106_3 (g ∘ tabl)) (cmp _ T106_3a (g ∘ tabl)) (J T106_3 (.exit 0) K) (J T106_3a (.exit 0) K)) fun m i => by simp only [Function.comp_def, wf i, wf (w106_3a N K m)]; rfl
theorem lo106_3 {R : Type} (N : Nat) : LoopOk E106 (it106 N (R := R)) (loopOf Tryz.f106 3) := lm 3 (ga T106_3 (w106_3 N) (ga T106_3a (w106_3a N) good_an))
def sp106 := spf A106 k106 U106.c U106.v
theorem ok106 : FnOk Tryz.prog T 106 sp106 := fq (E := E106) (call_cons ok132 call_nil) Tryz.func106 (it := fun N => it106 N) (fun N => (loops_cons (lo106_3 N) loops_nil)) U106.b U106.vo

def E73 := en [(105, sp105), (106, sp106)] []
def A73 : Fn [.R, .R, .R, .I] As := fun a b c d => [aV [.sh 9 a, .sh 9 b, .sh 144 c, .n d]]
def k73 : Fn [.R, .R, .R, .I] Res := fun a b c d => ⟨[aV [.ow 9 true a, .ow 9 true b, .ow 144 true c, .n d]], []⟩
def sp73 := spf A73 k73 U73.c U73.v
theorem ok73 : FnOk Tryz.prog T 73 sp73 := fr (E := E73) (call_cons ok105 (call_cons ok106 call_nil)) Tryz.func73 U73.b U73.vo

def E33 := en [(72, sp72), (73, sp73)] []
def A33 : Fn [.I, .R, .R, .R, .R, .I, .R, .R, .I] As := fun a b c d e f g h i => [aV [.n a, .sh 88 b, .sh 9 c, .sh 9 d, .sh 144 e, .n f, .sh 64 g, .sh 106 h, .n i]]
def k33 : Fn [.I, .R, .R, .R, .R, .I, .R, .R, .I] Res := fun a b c d e f g h i => ⟨[aV [.n a, .ow 88 true b, .ow 9 true c, .ow 9 true d, .ow 144 true e, .n f, .ow 64 true g, .ow 106 true h, .n i]], []⟩
def sp33 := spf A33 k33 U33.c U33.v
theorem ok33 : FnOk Tryz.prog T 33 sp33 := fr (E := E33) (call_cons ok72 (call_cons ok73 call_nil)) Tryz.func33 U33.b U33.vo

def E61 := en [] []
def A61 : Fn [.I, .I, .I] As := fun a b c => [aI a, aI b, aI c]
def k61 : Fn [.B] Res := fun a => ⟨[aB a], []⟩
def sp61 := spf A61 k61 (ct _) U61.v
theorem ok61 : FnOk Tryz.prog T 61 sp61 := ft (E := E61) call_nil Tryz.func61 U61.b fun (a0, a1, a2, _) => U61.b_eq _ a0 a1 a2

def E120 := en [(61, sp61)] []
def A120 : Fn [.S] As := fun a => [aS a]
def k120 : Fn [.B] Res := fun a => ⟨[aB a], []⟩
def sp120 := spf A120 k120 (ct _) U120.v
theorem ok120 : FnOk Tryz.prog T 120 sp120 := ft (E := E120) (call_cons ok61 call_nil) Tryz.func120 U120.b fun (a0, _) => U120.b_eq _ a0

def E95 := en [(61, sp61)] []
def A95 : Fn [.I] As := fun a => [aI a]
def k95 : Fn [.B] Res := fun a => ⟨[aB a], []⟩
def sp95 := spf A95 k95 (ct _) U95.v
theorem ok95 : FnOk Tryz.prog T 95 sp95 := ft (E := E95) (call_cons ok61 call_nil) Tryz.func95 U95.b fun (a0, _) => U95.b_eq _ a0

def E94 := en [(120, sp120), (95, sp95), (61, sp61)] []
def A94 : Fn [.S, .I, .I, .S] As := fun a b c d => [aV [.s a, .n b, .n c, .s d]]
def k94 : Fn [.B] Res := fun a => ⟨[aB a], []⟩
def sp94 := spf A94 k94 (ct _) U94.v
theorem ok94 : FnOk Tryz.prog T 94 sp94 := ft (E := E94) (call_cons ok120 (call_cons ok95 (call_cons ok61 call_nil))) Tryz.func94 U94.b fun (a0, a1, a2, a3, _) => U94.b_eq _ a0 a1 a2 a3

def E152 := en [] []
def A152 : Fn [.I] As := fun a => [.v false [.nl], aI a]
def k152 : Fn [.R] Res := fun a => ⟨[aO 9 a], []⟩
def sp152 := spf A152 k152 U152.c U152.v
theorem ok152 : FnOk Tryz.prog T 152 sp152 := fr (E := E152) call_nil Tryz.func152 U152.b U152.vo

def E145 := en [(152, sp152)] [(3, [0, 3, 9, 10, 11]), (11, [6, 25, 26, 27])]
def A145 : Fn [.R] As := fun a => [aH 23 a]
def k145 : Fn [.R] Res := fun a => ⟨[aO 9 a], []⟩
def T145_3 : Fn [.R, .I, .R, .I, .I] Tb := fun a b c d e => [cH 0 23 a, cI 6 b, cH 18 23 c, cI 20 d, cI 22 e]
def T145_11 : Fn [.R, .I, .I, .R] Tb := fun a b c d => [cA 12 (.own 0), cH 50 23 a, cI 52 b, cI 54 c, oR 1 9 d]
def L145_3 (N : Nat) {R : Type} (K : Kt R) := U145.l3 N (J T145_3 (.exit 0) K)
def L145_11 (N : Nat) {R : Type} (K : Kt R) := U145.l11 N (J T145_11 (.exit 2) K)
def it145 (N : Nat) {R : Type} : It R := (lp 3 (al T145_3 (fun K => L145_3 N K N) an) (lp 11 (al T145_11 (fun K => L145_11 N K N) an) ln))
theorem lo145_3 {R : Type} (N : Nat) : LoopOk E145 (it145 N (R := R)) (loopOf Tryz.f145 3) := lq 3 T145_3 (L145_3 N) fun K g => U145.r3 N g (J T145_3 (.exit 0) K)
theorem lo145_11 {R : Type} (N : Nat) : LoopOk E145 (it145 N (R := R)) (loopOf Tryz.f145 11) := lq 11 T145_11 (L145_11 N) fun K g => U145.r11 N g (J T145_11 (.exit 2) K)
def sp145 := spf A145 k145 U145.c U145.v
theorem ok145 : FnOk Tryz.prog T 145 sp145 := fq (E := E145) (call_cons ok152 call_nil) Tryz.func145 (it := fun N => it145 N) (fun N => (loops_cons (lo145_3 N) (loops_cons (lo145_11 N) loops_nil))) U145.b U145.vo

def E128 := en [(145, sp145)] []
def A128 : Fn [.R, .R, .R, .I] As := fun a b c d => [aV [.sh 9 a, .sh 9 b, .sh 144 c, .n d]]
def k128 : Fn [.R] Res := fun a => ⟨[aO 9 a], []⟩
def sp128 := spf A128 k128 U128.c U128.v
theorem ok128 : FnOk Tryz.prog T 128 sp128 := fr (E := E128) (call_cons ok145 call_nil) Tryz.func128 U128.b U128.vo

def E141 := en [] [(2, [0, 1, 4, 7, 8])]
def A141 : Fn [.R, .S] As := fun a b => [aH 9 a, aS b]
def k141 : Fn [.I] Res := fun a => ⟨[aI a], []⟩
def T141_2 : Fn [.R, .S, .I, .I, .I] Tb := fun a b c d e => [cH 0 9 a, cA 2 (.s b), cI 8 c, cI 14 d, cI 16 e]
def L141_2 (N : Nat) {R : Type} (K : Kt R) := U141.l2 N (J T141_2 .ret K) (J T141_2 (.exit 0) K)
def it141 (N : Nat) {R : Type} : It R := (lp 2 (al T141_2 (fun K => L141_2 N K N) an) ln)
theorem lo141_2 {R : Type} (N : Nat) : LoopOk E141 (it141 N (R := R)) (loopOf Tryz.f141 2) := lq 2 T141_2 (L141_2 N) fun K g => U141.r2 N g (J T141_2 .ret K) (J T141_2 (.exit 0) K)
def sp141 := spf A141 k141 U141.c U141.v
theorem ok141 : FnOk Tryz.prog T 141 sp141 := fq (E := E141) call_nil Tryz.func141 (it := fun N => it141 N) (fun N => (loops_cons (lo141_2 N) loops_nil)) U141.b U141.vo

def E123 := en [(141, sp141)] []
def A123 : Fn [.R, .S] As := fun a b => [aH 9 a, aS b]
def k123 : Fn [.B] Res := fun a => ⟨[aB a], []⟩
def sp123 := spf A123 k123 U123.c U123.v
theorem ok123 : FnOk Tryz.prog T 123 sp123 := fr (E := E123) (call_cons ok141 call_nil) Tryz.func123 U123.b U123.vo

def E98 := en [(128, sp128), (123, sp123)] []
def A98 : Fn [.R, .R, .R, .I, .S] As := fun a b c d e => [aV [.sh 9 a, .sh 9 b, .sh 144 c, .n d], aS e]
def k98 : Fn [.B] Res := fun a => ⟨[aB a], []⟩
def sp98 := spf A98 k98 U98.c U98.v
theorem ok98 : FnOk Tryz.prog T 98 sp98 := fr (E := E98) (call_cons ok128 (call_cons ok123 call_nil)) Tryz.func98 U98.b U98.vo

def E139 := en [(61, sp61)] [(2, [1, 2, 8, 9, 10]), (5, [1, 2, 4, 8, 9, 10, 14, 15, 16])]
def A139 : Fn [.R, .I] As := fun a b => [aV [.sh 144 a, .n b]]
def k139 : Fn [.B] Res := fun a => ⟨[aB a], []⟩
def T139_2 : Fn [.B, .R, .I, .I, .R, .I] Tb := fun a b c d e f => [cP 2 0, cA 4 (.b a), cH 16 144 b, cI 18 c, cI 20 d, oB 1 [.sh 144 e, .n f]]
def T139_5 : Fn [.B, .R, .R, .I, .I, .R, .I, .I, .R, .I] Tb := fun a b c d e f g h i j => [cP 2 0, cA 4 (.b a), cH 8 3 b, cH 16 144 c, cI 18 d, cI 20 e, cH 28 3 f, cI 30 g, cI 32 h, oB 1 [.sh 144 i, .n j]]
def L139_2 (N : Nat) {R : Type} (K : Kt R) := U139.l2 N (J T139_2 .ret K) (J T139_2 (.exit 0) K)
def L139_5 (N : Nat) {R : Type} (K : Kt R) := U139.l5 N (J T139_5 .ret K) (J T139_5 (.exit 2) K)
def it139 (N : Nat) {R : Type} : It R := (lp 2 (al T139_2 (fun K => L139_2 N K N) an) (lp 5 (al T139_5 (fun K => L139_5 N K N) an) ln))
theorem lo139_2 {R : Type} (N : Nat) : LoopOk E139 (it139 N (R := R)) (loopOf Tryz.f139 2) := lq 2 T139_2 (L139_2 N) fun K g => U139.r2 N g (J T139_2 .ret K) (J T139_2 (.exit 0) K)
theorem lo139_5 {R : Type} (N : Nat) : LoopOk E139 (it139 N (R := R)) (loopOf Tryz.f139 5) := lq 5 T139_5 (L139_5 N) fun K g => U139.r5 N g (J T139_5 .ret K) (J T139_5 (.exit 2) K)
def sp139 := spf A139 k139 U139.c U139.v
theorem ok139 : FnOk Tryz.prog T 139 sp139 := fq (E := E139) (call_cons ok61 call_nil) Tryz.func139 (it := fun N => it139 N) (fun N => (loops_cons (lo139_2 N) (loops_cons (lo139_5 N) loops_nil))) U139.b U139.vo

def E121 := en [(128, sp128), (120, sp120), (123, sp123), (139, sp139)] [(3, [1, 2, 3, 8, 9, 10])]
def A121 : Fn [.R, .R, .R, .I] As := fun a b c d => [aV [.sh 9 a, .sh 9 b, .sh 144 c, .n d]]
def k121 : Fn [.B] Res := fun a => ⟨[aB a], []⟩
def T121_3 : Fn [.B, .I, .I, .R, .R, .R, .I, .R] Tb := fun a b c d e f g h => [cP 2 0, cA 4 (.b a), cA 6 (.own 1), cA 16 (.own 1), cI 18 b, cI 20 c, oB 1 [.sh 9 d, .sh 9 e, .sh 144 f, .n g], oR 3 9 h]
def L121_3 (N : Nat) {R : Type} (K : Kt R) := U121.l3 N (J T121_3 .ret K) (J T121_3 (.exit 0) K)
def it121 (N : Nat) {R : Type} : It R := (lp 3 (al T121_3 (fun K => L121_3 N K N) an) ln)
theorem lo121_3 {R : Type} (N : Nat) : LoopOk E121 (it121 N (R := R)) (loopOf Tryz.f121 3) := lq 3 T121_3 (L121_3 N) fun K g => U121.r3 N g (J T121_3 .ret K) (J T121_3 (.exit 0) K)
def sp121 := spf A121 k121 U121.c U121.v
theorem ok121 : FnOk Tryz.prog T 121 sp121 := fq (E := E121) (call_cons ok128 (call_cons ok120 (call_cons ok123 (call_cons ok139 call_nil)))) Tryz.func121 (it := fun N => it121 N) (fun N => (loops_cons (lo121_3 N) loops_nil)) U121.b U121.vo

def E107 := en [(94, sp94), (98, sp98), (121, sp121), (128, sp128)] [(2, [1, 2, 6, 7, 8])]
def A107 : Fn [.I, .R, .R, .R, .R, .I, .R, .R, .I] As := fun a b c d e f g h i => [aV [.n a, .sh 88 b, .sh 9 c, .sh 9 d, .sh 144 e, .n f, .sh 64 g, .sh 106 h, .n i]]
def k107 : Fn [.B] Res := fun a => ⟨[aB a], []⟩
def T107_2 : Fn [.B, .R, .I, .I, .I, .R, .R, .R, .R, .I, .R, .R, .I] Tb := fun a b c d e f g h i j k l m => [cP 2 0, cA 4 (.b a), cH 12 88 b, cI 14 c, cI 16 d, oB 1 [.n e, .sh 88 f, .sh 9 g, .sh 9 h, .sh 144 i, .n j, .sh 64 k, .sh 106 l, .n m]]
def L107_2 (N : Nat) {R : Type} (K : Kt R) := U107.l2 N (J T107_2 .ret K) (J T107_2 (.exit 0) K)
def it107 (N : Nat) {R : Type} : It R := (lp 2 (al T107_2 (fun K => L107_2 N K N) an) ln)
theorem lo107_2 {R : Type} (N : Nat) : LoopOk E107 (it107 N (R := R)) (loopOf Tryz.f107 2) := lq 2 T107_2 (L107_2 N) fun K g => U107.r2 N g (J T107_2 .ret K) (J T107_2 (.exit 0) K)
def sp107 := spf A107 k107 U107.c U107.v
theorem ok107 : FnOk Tryz.prog T 107 sp107 := fq (E := E107) (call_cons ok94 (call_cons ok98 (call_cons ok121 (call_cons ok128 call_nil)))) Tryz.func107 (it := fun N => it107 N) (fun N => (loops_cons (lo107_2 N) loops_nil)) U107.b U107.vo

def E155 := en [] []
def A155 : Fn [.S, .S, .I, .I, .I, .S] As := fun a b c d e f => [aV [.s a, .s b, .n c, .n d, .n e], .fb [.s f]]
def k155 : Fn [.B] Res := fun a => ⟨[aB a], []⟩
def sp155 := spf A155 k155 (ct _) U155.v
theorem ok155 : FnOk Tryz.prog T 155 sp155 := ft (E := E155) call_nil Tryz.func155 U155.b fun (a0, a1, a2, a3, a4, a5, _) => U155.b_eq _ a0 a1 a2 a3 a4 a5

def E154 := en [(155, sp155)] [(2, [0, 1, 4, 7, 8])]
def A154 : Fn [.R, .S] As := fun a b => [aH 64 a, .v false [.fn 155 [[.s b]]]]
def k154 : Fn [.I] Res := fun a => ⟨[aI a], []⟩
def T154_2 : Fn [.R, .S, .I, .I, .I] Tb := fun a b c d e => [cH 0 64 a, cA 2 (.fn 155 [[.s b]]), cI 8 c, cI 14 d, cI 16 e]
def L154_2 (N : Nat) {R : Type} (K : Kt R) := U154.l2 N (J T154_2 .ret K) (J T154_2 (.exit 0) K)
def it154 (N : Nat) {R : Type} : It R := (lp 2 (al T154_2 (fun K => L154_2 N K N) an) ln)
theorem lo154_2 {R : Type} (N : Nat) : LoopOk E154 (it154 N (R := R)) (loopOf Tryz.f154 2) := lq 2 T154_2 (L154_2 N) fun K g => U154.r2 N g (J T154_2 .ret K) (J T154_2 (.exit 0) K)
def sp154 := spf A154 k154 U154.c U154.v
theorem ok154 : FnOk Tryz.prog T 154 sp154 := fq (E := E154) (call_cons ok155 call_nil) Tryz.func154 (it := fun N => it154 N) (fun N => (loops_cons (lo154_2 N) loops_nil)) U154.b U154.vo

def E148 := en [(154, sp154)] []
def A148 : Fn [.I, .R, .R, .R, .R, .I, .R, .R, .I, .S] As := fun a b c d e f g h i j => [aV [.n a, .sh 88 b, .sh 9 c, .sh 9 d, .sh 144 e, .n f, .sh 64 g, .sh 106 h, .n i], aS j]
def k148 : Fn [.I] Res := fun a => ⟨[aI a], []⟩
def sp148 := spf A148 k148 U148.c U148.v
theorem ok148 : FnOk Tryz.prog T 148 sp148 := fr (E := E148) (call_cons ok154 call_nil) Tryz.func148 U148.b U148.vo

def E133 := en [(148, sp148)] [(2, [1, 2, 6, 7, 8])]
def A133 : Fn [.I, .R, .R, .R, .R, .I, .R, .R, .I] As := fun a b c d e f g h i => [aV [.n a, .sh 88 b, .sh 9 c, .sh 9 d, .sh 144 e, .n f, .sh 64 g, .sh 106 h, .n i]]
def k133 : Fn [.B] Res := fun a => ⟨[aB a], []⟩
def T133_2 : Fn [.B, .R, .I, .I, .I, .R, .R, .R, .R, .I, .R, .R, .I] Tb := fun a b c d e f g h i j k l m => [cP 2 0, cA 4 (.b a), cH 12 64 b, cI 14 c, cI 16 d, oB 1 [.n e, .sh 88 f, .sh 9 g, .sh 9 h, .sh 144 i, .n j, .sh 64 k, .sh 106 l, .n m]]
def L133_2 (N : Nat) {R : Type} (K : Kt R) := U133.l2 N (J T133_2 .ret K) (J T133_2 (.exit 0) K)
def it133 (N : Nat) {R : Type} : It R := (lp 2 (al T133_2 (fun K => L133_2 N K N) an) ln)
theorem lo133_2 {R : Type} (N : Nat) : LoopOk E133 (it133 N (R := R)) (loopOf Tryz.f133 2) := lq 2 T133_2 (L133_2 N) fun K g => U133.r2 N g (J T133_2 .ret K) (J T133_2 (.exit 0) K)
def sp133 := spf A133 k133 U133.c U133.v
theorem ok133 : FnOk Tryz.prog T 133 sp133 := fq (E := E133) (call_cons ok148 call_nil) Tryz.func133 (it := fun N => it133 N) (fun N => (loops_cons (lo133_2 N) loops_nil)) U133.b U133.vo

def E108 := en [(120, sp120), (61, sp61), (133, sp133)] [(2, [1, 2, 6, 7, 8])]
def A108 : Fn [.I, .R, .R, .R, .R, .I, .R, .R, .I] As := fun a b c d e f g h i => [aV [.n a, .sh 88 b, .sh 9 c, .sh 9 d, .sh 144 e, .n f, .sh 64 g, .sh 106 h, .n i]]
def k108 : Fn [.B] Res := fun a => ⟨[aB a], []⟩
def T108_2 : Fn [.B, .R, .I, .I, .I, .R, .R, .R, .R, .I, .R, .R, .I] Tb := fun a b c d e f g h i j k l m => [cP 2 0, cA 4 (.b a), cH 12 64 b, cI 14 c, cI 16 d, oB 1 [.n e, .sh 88 f, .sh 9 g, .sh 9 h, .sh 144 i, .n j, .sh 64 k, .sh 106 l, .n m]]
def L108_2 (N : Nat) {R : Type} (K : Kt R) := U108.l2 N (J T108_2 .ret K) (J T108_2 (.exit 0) K)
def it108 (N : Nat) {R : Type} : It R := (lp 2 (al T108_2 (fun K => L108_2 N K N) an) ln)
theorem lo108_2 {R : Type} (N : Nat) : LoopOk E108 (it108 N (R := R)) (loopOf Tryz.f108 2) := lq 2 T108_2 (L108_2 N) fun K g => U108.r2 N g (J T108_2 .ret K) (J T108_2 (.exit 0) K)
def sp108 := spf A108 k108 U108.c U108.v
theorem ok108 : FnOk Tryz.prog T 108 sp108 := fq (E := E108) (call_cons ok120 (call_cons ok61 (call_cons ok133 call_nil))) Tryz.func108 (it := fun N => it108 N) (fun N => (loops_cons (lo108_2 N) loops_nil)) U108.b U108.vo

def E109 := en [(61, sp61), (120, sp120)] [(2, [1, 2, 6, 7, 8])]
def A109 : Fn [.I, .R, .R, .R, .R, .I, .R, .R, .I] As := fun a b c d e f g h i => [aV [.n a, .sh 88 b, .sh 9 c, .sh 9 d, .sh 144 e, .n f, .sh 64 g, .sh 106 h, .n i]]
def k109 : Fn [.B] Res := fun a => ⟨[aB a], []⟩
def T109_2 : Fn [.B, .R, .I, .I, .I, .R, .R, .R, .R, .I, .R, .R, .I] Tb := fun a b c d e f g h i j k l m => [cP 2 0, cA 4 (.b a), cH 12 106 b, cI 14 c, cI 16 d, oB 1 [.n e, .sh 88 f, .sh 9 g, .sh 9 h, .sh 144 i, .n j, .sh 64 k, .sh 106 l, .n m]]
def L109_2 (N : Nat) {R : Type} (K : Kt R) := U109.l2 N (J T109_2 .ret K) (J T109_2 (.exit 0) K)
def it109 (N : Nat) {R : Type} : It R := (lp 2 (al T109_2 (fun K => L109_2 N K N) an) ln)
theorem lo109_2 {R : Type} (N : Nat) : LoopOk E109 (it109 N (R := R)) (loopOf Tryz.f109 2) := lq 2 T109_2 (L109_2 N) fun K g => U109.r2 N g (J T109_2 .ret K) (J T109_2 (.exit 0) K)
def sp109 := spf A109 k109 U109.c U109.v
theorem ok109 : FnOk Tryz.prog T 109 sp109 := fq (E := E109) (call_cons ok61 (call_cons ok120 call_nil)) Tryz.func109 (it := fun N => it109 N) (fun N => (loops_cons (lo109_2 N) loops_nil)) U109.b U109.vo

def E74 := en [(61, sp61), (107, sp107), (108, sp108), (109, sp109), (95, sp95)] []
def A74 : Fn [.I, .R, .R, .R, .R, .I, .R, .R, .I] As := fun a b c d e f g h i => [aV [.n a, .sh 88 b, .sh 9 c, .sh 9 d, .sh 144 e, .n f, .sh 64 g, .sh 106 h, .n i]]
def k74 : Fn [.B] Res := fun a => ⟨[aB a], []⟩
def sp74 := spf A74 k74 U74.c U74.v
theorem ok74 : FnOk Tryz.prog T 74 sp74 := fr (E := E74) (call_cons ok61 (call_cons ok107 (call_cons ok108 (call_cons ok109 (call_cons ok95 call_nil))))) Tryz.func74 U74.b U74.vo

def E34 := en [(74, sp74), (61, sp61)] []
def A34 : Fn [.I, .R, .R, .R, .R, .I, .R, .R, .I, .I] As := fun a b c d e f g h i j => [aV [.n a, .sh 88 b, .sh 9 c, .sh 9 d, .sh 144 e, .n f, .sh 64 g, .sh 106 h, .n i], aI j]
def k34 : Fn [.B] Res := fun a => ⟨[aB a], []⟩
def sp34 := spf A34 k34 U34.c U34.v
theorem ok34 : FnOk Tryz.prog T 34 sp34 := fr (E := E34) (call_cons ok74 (call_cons ok61 call_nil)) Tryz.func34 U34.b U34.vo

def E35 := en [] [(1, [0, 1, 2, 11, 12, 13])]
def A35 : Fn [.I, .R, .R, .R, .R, .I, .R, .R, .I, .I, .I] As := fun a b c d e f g h i j k => [.pt [.n a, .ow 88 true b, .ow 9 true c, .ow 9 true d, .ow 144 true e, .n f, .ow 64 true g, .ow 106 true h, .n i], aI j, aI k]
def k35 : Fn [.I, .R, .R, .R, .R, .I, .R, .R, .I] Res := fun a b c d e f g h i => ⟨[], [[.n a, .kp b, .kp c, .kp d, .kp e, .n f, .kp g, .kp h, .n i]]⟩
def T35_1 : Fn [.I, .I, .I, .I, .I, .I, .I, .R, .R, .R, .R, .R, .R] Tb := fun a b c d e f g h i j k l m => [cP 0 900000900, cI 2 a, cI 4 b, cA 22 (.own 900000007), cI 24 c, cI 26 d, oB 1800001801 [.n e, .own 900000001, .own 900000002, .own 900000003, .own 900000004, .n f, .own 900000006, .own 900000007, .n g], oR 1800000015 106 h, oR 1800000003 88 i, oR 1800000005 9 j, oR 1800000007 9 k, oR 1800000009 144 l, oR 1800000013 64 m]
def L35_1 (N : Nat) {R : Type} (K : Kt R) := U35.l1 N (J T35_1 (.exit 0) K)
def it35 (N : Nat) {R : Type} : It R := (lp 1 (al T35_1 (fun K => L35_1 N K N) an) ln)
theorem lo35_1 {R : Type} (N : Nat) : LoopOk E35 (it35 N (R := R)) (loopOf Tryz.f35 1) := lq 1 T35_1 (L35_1 N) fun K g => U35.r1 N g (J T35_1 (.exit 0) K)
def sp35 := spf A35 k35 U35.c U35.v
theorem ok35 : FnOk Tryz.prog T 35 sp35 := fq (E := E35) call_nil Tryz.func35 (it := fun N => it35 N) (fun N => (loops_cons (lo35_1 N) loops_nil)) U35.b U35.vo

def E157 := en [] [(2, [0, 1, 5]), (6, [0, 1, 5, 19])]
def A157 : Fn [.I, .S] As := fun a b => [.v false [.i .u32 a], aS b]
def k157 : Fn [.I] Res := fun a => ⟨[.v false [.i .u32 a]], []⟩
def T157_2 : Fn [.I, .S, .I] Tb := fun a b c => [cA 0 (.i .u32 a), cA 2 (.s b), cI 10 c]
def T157_6 : Fn [.I, .S, .I, .I] Tb := fun a b c d => [cA 0 (.i .u32 a), cA 2 (.s b), cI 10 c, cI 38 d]
def L157_2 (N : Nat) {R : Type} (K : Kt R) := U157.l2 N (J T157_2 (.exit 0) K)
def L157_6 (N : Nat) {R : Type} (K : Kt R) := U157.l6 N (J T157_6 (.exit 2) K)
def it157 (N : Nat) {R : Type} : It R := (lp 2 (al T157_2 (fun K => L157_2 N K N) an) (lp 6 (al T157_6 (fun K => L157_6 N K N) an) ln))
theorem lo157_2 {R : Type} (N : Nat) : LoopOk E157 (it157 N (R := R)) (loopOf Tryz.f157 2) := lq 2 T157_2 (L157_2 N) fun K g => U157.r2 N g (J T157_2 (.exit 0) K)
theorem lo157_6 {R : Type} (N : Nat) : LoopOk E157 (it157 N (R := R)) (loopOf Tryz.f157 6) := lq 6 T157_6 (L157_6 N) fun K g => U157.r6 N g (J T157_6 (.exit 2) K)
def sp157 := spf A157 k157 U157.c U157.v
theorem ok157 : FnOk Tryz.prog T 157 sp157 := fq (E := E157) call_nil Tryz.func157 (it := fun N => it157 N) (fun N => (loops_cons (lo157_2 N) (loops_cons (lo157_6 N) loops_nil))) U157.b U157.vo

def E150 := en [(157, sp157)] []
def A150 : Fn [.S] As := fun a => [aS a]
def k150 : Fn [.I] Res := fun a => ⟨[.v false [.i .u32 a]], []⟩
def sp150 := spf A150 k150 U150.c U150.v
theorem ok150 : FnOk Tryz.prog T 150 sp150 := fr (E := E150) (call_cons ok157 call_nil) Tryz.func150 U150.b U150.vo

def E140 := en [(150, sp150)] []
def A140 : Fn [.I, .S] As := fun a b => [aI a, aS b]
def k140 : Fn [.I] Res := fun a => ⟨[aI a], []⟩
def sp140 := spf A140 k140 U140.c U140.v
theorem ok140 : FnOk Tryz.prog T 140 sp140 := fr (E := E140) (call_cons ok150 call_nil) Tryz.func140 U140.b U140.vo

def E122 := en [(106, sp106), (139, sp139), (140, sp140)] [(5, [1, 4, 5, 19, 20, 21]), (15, [4, 5, 49, 50, 51]), (18, [4, 5, 10, 49, 50, 51, 56, 57])]
def A122 : Fn [.R, .I, .S] As := fun a b c => [aV [.sh 144 a, .n b], aS c]
def k122 : Fn [.R, .I] Res := fun a b => ⟨[aV [.ow 144 true a, .n b]], []⟩
def T122_5 : Fn [.S, .I, .I, .I, .I, .R] Tb := fun a b c d e f => [cA 2 (.s a), cP 8 0, cP 10 1, cA 38 (.own 2), cI 40 b, cI 42 c, oB 1 [.nl, .n d], oB 3 [.own 2, .n e], oR 5 144 f]
def T122_15 : Fn [.I, .I, .I, .I, .R] Tb := fun a b c d e => [cP 8 0, cP 10 1, cA 98 (.own 2), cI 100 a, cI 102 b, oB 1 [.nl, .n c], oB 3 [.own 2, .n d], oR 5 144 e]
def T122_18 : Fn [.N, .I, .I, .I, .I, .I, .I, .R] Tb := fun a b c d e f g h => [cP 8 0, cP 10 1, cA 20 (.inn 2 a 0), cA 98 (.own 2), cI 100 b, cI 102 c, cI 112 d, cI 114 e, oB 1 [.nl, .n f], oB 3 [.own 2, .n g], oR 5 144 h]
def L122_5 (N : Nat) {R : Type} (K : Kt R) := U122.l5 N (J T122_5 (.exit 0) K)
def L122_15 (N : Nat) {R : Type} (K : Kt R) := U122.l15 N (J T122_15 (.exit 2) K)
def L122_18 (N : Nat) {R : Type} (K : Kt R) := U122.l18 N (J T122_18 (.exit 4) K)
def it122 (N : Nat) {R : Type} : It R := (lp 5 (al T122_5 (fun K => L122_5 N K N) an) (lp 15 (al T122_15 (fun K => L122_15 N K N) an) (lp 18 (al T122_18 (fun K => L122_18 N K N) an) ln)))
theorem lo122_5 {R : Type} (N : Nat) : LoopOk E122 (it122 N (R := R)) (loopOf Tryz.f122 5) := lq 5 T122_5 (L122_5 N) fun K g => U122.r5 N g (J T122_5 (.exit 0) K)
theorem lo122_15 {R : Type} (N : Nat) : LoopOk E122 (it122 N (R := R)) (loopOf Tryz.f122 15) := lq 15 T122_15 (L122_15 N) fun K g => U122.r15 N g (J T122_15 (.exit 2) K)
theorem lo122_18 {R : Type} (N : Nat) : LoopOk E122 (it122 N (R := R)) (loopOf Tryz.f122 18) := lq 18 T122_18 (L122_18 N) fun K g => U122.r18 N g (J T122_18 (.exit 4) K)
def sp122 := spf A122 k122 U122.c U122.v
theorem ok122 : FnOk Tryz.prog T 122 sp122 := fq (E := E122) (call_cons ok106 (call_cons ok139 (call_cons ok140 call_nil))) Tryz.func122 (it := fun N => it122 N) (fun N => (loops_cons (lo122_5 N) (loops_cons (lo122_15 N) (loops_cons (lo122_18 N) loops_nil)))) U122.b U122.vo

def E143 := en [] []
def A143 : Fn [.S, .S] As := fun a b => [aS a, .fb [.s b]]
def k143 : Fn [.B] Res := fun a => ⟨[aB a], []⟩
def sp143 := spf A143 k143 (ct _) U143.v
theorem ok143 : FnOk Tryz.prog T 143 sp143 := ft (E := E143) call_nil Tryz.func143 U143.b fun (a0, a1, _) => U143.b_eq _ a0 a1

def E151 := en [(143, sp143)] [(2, [0, 1, 4, 7, 8])]
def A151 : Fn [.R, .S] As := fun a b => [aH 9 a, .v false [.fn 143 [[.s b]]]]
def k151 : Fn [.I] Res := fun a => ⟨[aI a], []⟩
def T151_2 : Fn [.R, .S, .I, .I, .I] Tb := fun a b c d e => [cH 0 9 a, cA 2 (.fn 143 [[.s b]]), cI 8 c, cI 14 d, cI 16 e]
def L151_2 (N : Nat) {R : Type} (K : Kt R) := U151.l2 N (J T151_2 .ret K) (J T151_2 (.exit 0) K)
def it151 (N : Nat) {R : Type} : It R := (lp 2 (al T151_2 (fun K => L151_2 N K N) an) ln)
theorem lo151_2 {R : Type} (N : Nat) : LoopOk E151 (it151 N (R := R)) (loopOf Tryz.f151 2) := lq 2 T151_2 (L151_2 N) fun K g => U151.r2 N g (J T151_2 .ret K) (J T151_2 (.exit 0) K)
def sp151 := spf A151 k151 U151.c U151.v
theorem ok151 : FnOk Tryz.prog T 151 sp151 := fq (E := E151) (call_cons ok143 call_nil) Tryz.func151 (it := fun N => it151 N) (fun N => (loops_cons (lo151_2 N) loops_nil)) U151.b U151.vo

def E142 := en [(151, sp151), (143, sp143)] [(5, [0, 1, 5, 6])]
def A142 : Fn [.R, .S] As := fun a b => [aO 9 a, .v false [.fn 143 [[.s b]]]]
def k142 : Fn [.R] Res := fun a => ⟨[aO 9 a], [[.nl]]⟩
def T142_5 : Fn [.S, .I, .I, .R] Tb := fun a b c d => [cA 0 (.own 900000000), cA 2 (.fn 143 [[.s a]]), cI 10 b, cI 12 c, oR 1800000001 9 d]
def L142_5 (N : Nat) {R : Type} (K : Kt R) := U142.l5 N (J T142_5 (.exit 0) K)
def it142 (N : Nat) {R : Type} : It R := (lp 5 (al T142_5 (fun K => L142_5 N K N) an) ln)
theorem lo142_5 {R : Type} (N : Nat) : LoopOk E142 (it142 N (R := R)) (loopOf Tryz.f142 5) := lq 5 T142_5 (L142_5 N) fun K g => U142.r5 N g (J T142_5 (.exit 0) K)
def sp142 := spf A142 k142 U142.c U142.v
theorem ok142 : FnOk Tryz.prog T 142 sp142 := fq (E := E142) (call_cons ok151 (call_cons ok143 call_nil)) Tryz.func142 (it := fun N => it142 N) (fun N => (loops_cons (lo142_5 N) loops_nil)) U142.b U142.vo

def E124 := en [(105, sp105), (142, sp142)] []
def A124 : Fn [.R, .S] As := fun a b => [aH 9 a, aS b]
def k124 : Fn [.R] Res := fun a => ⟨[aO 9 a], []⟩
def sp124 := spf A124 k124 U124.c U124.v
theorem ok124 : FnOk Tryz.prog T 124 sp124 := fr (E := E124) (call_cons ok105 (call_cons ok142 call_nil)) Tryz.func124 U124.b U124.vo

def E125 := en [(139, sp139), (140, sp140)] [(5, [1, 5, 12, 13, 14])]
def A125 : Fn [.R, .I, .S] As := fun a b c => [aV [.sh 144 a, .n b], aS c]
def k125 : Fn [.I] Res := fun a => ⟨[aI a], []⟩
def T125_5 : Fn [.S, .I, .R, .I, .I] Tb := fun a b c d e => [cA 2 (.s a), cI 10 b, cH 24 144 c, cI 26 d, cI 28 e]
def L125_5 (N : Nat) {R : Type} (K : Kt R) := U125.l5 N (J T125_5 (.exit 0) K)
def it125 (N : Nat) {R : Type} : It R := (lp 5 (al T125_5 (fun K => L125_5 N K N) an) ln)
theorem lo125_5 {R : Type} (N : Nat) : LoopOk E125 (it125 N (R := R)) (loopOf Tryz.f125 5) := lq 5 T125_5 (L125_5 N) fun K g => U125.r5 N g (J T125_5 (.exit 0) K)
def sp125 := spf A125 k125 U125.c U125.v
theorem ok125 : FnOk Tryz.prog T 125 sp125 := fq (E := E125) (call_cons ok139 (call_cons ok140 call_nil)) Tryz.func125 (it := fun N => it125 N) (fun N => (loops_cons (lo125_5 N) loops_nil)) U125.b U125.vo

def E96 := en [(73, sp73), (121, sp121), (120, sp120), (122, sp122), (123, sp123), (124, sp124), (125, sp125)] []
def A96 : Fn [.R, .R, .R, .I, .S] As := fun a b c d e => [aV [.sh 9 a, .sh 9 b, .sh 144 c, .n d], aS e]
def k96 : Fn [.R, .R, .R, .I, .S] Res := fun a b c d e => ⟨[aV [.ow 9 true a, .ow 9 true b, .ow 144 true c, .n d], aS e], []⟩
def sp96 := spf A96 k96 U96.c U96.v
theorem ok96 : FnOk Tryz.prog T 96 sp96 := fr (E := E96) (call_cons ok73 (call_cons ok121 (call_cons ok120 (call_cons ok122 (call_cons ok123 (call_cons ok124 (call_cons ok125 call_nil))))))) Tryz.func96 U96.b U96.vo

def E127 := en [] []
def A127 : Fn [.S, .I, .I, .S, .S] As := fun a b c d e => [aV [.s a, .n b, .n c, .s d], .fb [.s e]]
def k127 : Fn [.B] Res := fun a => ⟨[aB a], []⟩
def sp127 := spf A127 k127 (ct _) U127.v
theorem ok127 : FnOk Tryz.prog T 127 sp127 := ft (E := E127) call_nil Tryz.func127 U127.b fun (a0, a1, a2, a3, a4, _) => U127.b_eq _ a0 a1 a2 a3 a4

def E144b := en [(127, sp127)] [(2, [0, 1, 4, 7, 8])]
def A144b : Fn [.R, .S] As := fun a b => [aH 88 a, .v false [.fn 127 [[.s b]]]]
def k144b : Fn [.I] Res := fun a => ⟨[aI a], []⟩
def T144b_2 : Fn [.R, .S, .I, .I, .I] Tb := fun a b c d e => [cH 0 88 a, cA 2 (.fn 127 [[.s b]]), cI 8 c, cI 14 d, cI 16 e]
def L144b_2 (N : Nat) {R : Type} (K : Kt R) := U144b.l2 N (J T144b_2 .ret K) (J T144b_2 (.exit 0) K)
def it144b (N : Nat) {R : Type} : It R := (lp 2 (al T144b_2 (fun K => L144b_2 N K N) an) ln)
theorem lo144b_2 {R : Type} (N : Nat) : LoopOk E144b (it144b N (R := R)) (loopOf Tryz.f144 2) := lq 2 T144b_2 (L144b_2 N) fun K g => U144b.r2 N g (J T144b_2 .ret K) (J T144b_2 (.exit 0) K)
def sp144b := spf A144b k144b U144b.c U144b.v
theorem ok144b : FnOk Tryz.prog T 144 sp144b := fq (E := E144b) (call_cons ok127 call_nil) Tryz.func144 (it := fun N => it144b N) (fun N => (loops_cons (lo144b_2 N) loops_nil)) U144b.b U144b.vo

def E126 := en [(144, sp144b), (127, sp127)] [(5, [0, 1, 5, 6])]
def A126 : Fn [.R, .S] As := fun a b => [aO 88 a, .v false [.fn 127 [[.s b]]]]
def k126 : Fn [.R] Res := fun a => ⟨[aO 88 a], [[.nl]]⟩
def T126_5 : Fn [.S, .I, .I, .R] Tb := fun a b c d => [cA 0 (.own 900000000), cA 2 (.fn 127 [[.s a]]), cI 10 b, cI 12 c, oR 1800000001 88 d]
def L126_5 (N : Nat) {R : Type} (K : Kt R) := U126.l5 N (J T126_5 (.exit 0) K)
def it126 (N : Nat) {R : Type} : It R := (lp 5 (al T126_5 (fun K => L126_5 N K N) an) ln)
theorem lo126_5 {R : Type} (N : Nat) : LoopOk E126 (it126 N (R := R)) (loopOf Tryz.f126 5) := lq 5 T126_5 (L126_5 N) fun K g => U126.r5 N g (J T126_5 (.exit 0) K)
def sp126 := spf A126 k126 U126.c U126.v
theorem ok126 : FnOk Tryz.prog T 126 sp126 := fq (E := E126) (call_cons ok144b (call_cons ok127 call_nil)) Tryz.func126 (it := fun N => it126 N) (fun N => (loops_cons (lo126_5 N) loops_nil)) U126.b U126.vo

def E97 := en [(72, sp72), (126, sp126)] []
def A97 : Fn [.R, .S] As := fun a b => [aH 88 a, aS b]
def k97 : Fn [.R] Res := fun a => ⟨[aO 88 a], []⟩
def sp97 := spf A97 k97 U97.c U97.v
theorem ok97 : FnOk Tryz.prog T 97 sp97 := fr (E := E97) (call_cons ok72 (call_cons ok126 call_nil)) Tryz.func97 U97.b U97.vo

def rho129 : Go.Shelf.Ren := ⟨fun n => bif Nat.beq n 22 then 129 else bif Nat.beq n 29 then 146 else 147, fun n => bif Nat.beq n 24 then 34 else bif Nat.beq n 9 then 88 else bif Nat.beq n 3 then 3 else bif Nat.beq n 4 then 4 else n, fun n => n⟩
def sp129 : List Arg -> Option (Bool × Res) := Ins.insSpec 88 48
theorem ins129 : Ins.L Tryz.prog rho129 "slices.Insert[[]loop.example/g00245/impl.Entry,loop.example/g00245/impl.Entry]" 4 where
 mixed := hM
 f22 := Tryz.func129.trans (by kernel_rfl)
 t3 := by kernel_rfl
 a3 := Ins.agg_false (P := Tryz.prog) (t := 3) (d := .int .i64) (by kernel_rfl) rfl
 t4 := by kernel_rfl
 a4 := Ins.agg_false (P := Tryz.prog) (t := 4) (d := .bool) (by kernel_rfl) rfl
 t24 := by kernel_rfl
 a24 := Ins.agg_false (P := Tryz.prog) (t := 34) (d := .slice 88) (by kernel_rfl) rfl
 z9 := Ins.size_of hE (t := 88) (ti := ⟨true, [.s, .i .i64, .i .i64, .s], 48⟩) (by kernel_rfl)
theorem ok129 : FnOk Tryz.prog T 129 sp129 :=
 Ins.insert_ok (e := 88) (te := ⟨true, [.s, .i .i64, .i .i64, .s], 48⟩) (by kernel_rfl) rfl (by kernel_rfl) hE ins129
  (fun args w => run_callFunc_extern (e := Extern.SlicesOverlaps.overlaps #[34, 34] #[4]) Tryz.func146 (by kernel_rfl) (by kernel_rfl) (by kernel_rfl) (by kernel_rfl) args w)
  ⟨_, Tryz.func129, by kernel_rfl, by kernel_rfl⟩

def E99 := en [(97, sp97), (129, sp129)] [(3, [3, 5, 6])]
def A99 : Fn [.R, .S, .I, .I, .S] As := fun a b c d e => [aH 88 a, aV [.s b, .n c, .n d, .s e]]
def k99 : Fn [.R] Res := fun a => ⟨[aO 88 a], []⟩
def T99_3 : Fn [.I, .S, .I, .I, .S, .R] Tb := fun a b c d e f => [cP 6 0, cA 10 (.own 1), cI 12 a, oB 1 [.s b, .n c, .n d, .s e], oR 3 88 f]
def L99_3 (N : Nat) {R : Type} (K : Kt R) := U99.l3 N (J T99_3 (.exit 0) K)
def it99 (N : Nat) {R : Type} : It R := (lp 3 (al T99_3 (fun K => L99_3 N K N) an) ln)
theorem lo99_3 {R : Type} (N : Nat) : LoopOk E99 (it99 N (R := R)) (loopOf Tryz.f99 3) := lq 3 T99_3 (L99_3 N) fun K g => U99.r3 N g (J T99_3 (.exit 0) K)
def sp99 := spf A99 k99 U99.c U99.v
theorem ok99 : FnOk Tryz.prog T 99 sp99 := fq (E := E99) (call_cons ok97 (call_cons ok129 call_nil)) Tryz.func99 (it := fun N => it99 N) (fun N => (loops_cons (lo99_3 N) loops_nil)) U99.b U99.vo

def E57 := en [(96, sp96), (97, sp97), (98, sp98), (99, sp99)] []
def A57 : Fn [.I, .R, .R, .R, .R, .I, .R, .R, .I, .S, .I, .I, .S] As := fun a b c d e f g h i j k l m => [.pt [.n a, .ow 88 true b, .ow 9 true c, .ow 9 true d, .ow 144 true e, .n f, .ow 64 true g, .ow 106 true h, .n i], aV [.s j, .n k, .n l, .s m]]
def k57 : Fn [.I, .R, .R, .R, .R, .I, .R, .R, .I] Res := fun a b c d e f g h i => ⟨[], [[.n a, .ow 88 true b, .ow 9 true c, .ow 9 true d, .ow 144 true e, .n f, .kp g, .kp h, .n i]]⟩
def sp57 := spf A57 k57 U57.c U57.v
theorem ok57 : FnOk Tryz.prog T 57 sp57 := fr (E := E57) (call_cons ok96 (call_cons ok97 (call_cons ok98 (call_cons ok99 call_nil)))) Tryz.func57 U57.b U57.vo

def E23 := en [(33, sp33), (34, sp34), (61, sp61), (35, sp35), (57, sp57)] []
def A23 : Fn [.I, .R, .R, .R, .R, .I, .R, .R, .I, .I, .I] As := fun a b c d e f g h i j k => [aV [.n a, .sh 88 b, .sh 9 c, .sh 9 d, .sh 144 e, .n f, .sh 64 g, .sh 106 h, .n i], aI j, aI k]
def k23 : Fn [.I, .R, .R, .R, .R, .I, .R, .R, .I, .B] Res := fun a b c d e f g h i j => ⟨[aV [.n a, .ow 88 true b, .ow 9 true c, .ow 9 true d, .ow 144 true e, .n f, .ow 64 true g, .ow 106 true h, .n i], aB j], []⟩
def sp23 := spf A23 k23 U23.c U23.v
theorem ok23 : FnOk Tryz.prog T 23 sp23 := fr (E := E23) (call_cons ok33 (call_cons ok34 (call_cons ok61 (call_cons ok35 (call_cons ok57 call_nil))))) Tryz.func23 U23.b U23.vo

def E58 := en [] []
def A58 : Fn [.S, .I, .I, .S, .S, .I, .I, .S] As := fun a b c d e f g h => [aV [.s a, .n b, .n c, .s d], aV [.s e, .n f, .n g, .s h]]
def k58 : Fn [.B] Res := fun a => ⟨[aB a], []⟩
def sp58 := spf A58 k58 (ct _) U58.v
theorem ok58 : FnOk Tryz.prog T 58 sp58 := ft (E := E58) call_nil Tryz.func58 U58.b fun (a0, a1, a2, a3, a4, a5, a6, a7, _) => U58.b_eq _ a0 a1 a2 a3 a4 a5 a6 a7

def E20 := en [(58, sp58)] [(4, [0, 1, 4, 5])]
def A20 : Fn [.R, .R] As := fun a b => [aH 88 a, aH 88 b]
def k20 : Fn [.B] Res := fun a => ⟨[aB a], []⟩
def T20_4 : Fn [.R, .R, .B, .I] Tb := fun a b c d => [cH 0 88 a, cH 2 88 b, cA 8 (.b c), cI 10 d]
def L20_4 (N : Nat) {R : Type} (K : Kt R) := U20.l4 N (J T20_4 .ret K) (J T20_4 (.exit 0) K)
def it20 (N : Nat) {R : Type} : It R := (lp 4 (al T20_4 (fun K => L20_4 N K N) an) ln)
theorem lo20_4 {R : Type} (N : Nat) : LoopOk E20 (it20 N (R := R)) (loopOf Tryz.f20 4) := lq 4 T20_4 (L20_4 N) fun K g => U20.r4 N g (J T20_4 .ret K) (J T20_4 (.exit 0) K)
def sp20 := spf A20 k20 U20.c U20.v
theorem ok20 : FnOk Tryz.prog T 20 sp20 := fq (E := E20) (call_cons ok58 call_nil) Tryz.func20 (it := fun N => it20 N) (fun N => (loops_cons (lo20_4 N) loops_nil)) U20.b U20.vo

def E75 := en [] [(4, [0, 1, 4, 5])]
def A75 : Fn [.R, .R] As := fun a b => [aH 9 a, aH 9 b]
def k75 : Fn [.B] Res := fun a => ⟨[aB a], []⟩
def T75_4 : Fn [.R, .R, .B, .I] Tb := fun a b c d => [cH 0 9 a, cH 2 9 b, cA 8 (.b c), cI 10 d]
def L75_4 (N : Nat) {R : Type} (K : Kt R) := U75.l4 N (J T75_4 .ret K) (J T75_4 (.exit 0) K)
def it75 (N : Nat) {R : Type} : It R := (lp 4 (al T75_4 (fun K => L75_4 N K N) an) ln)
theorem lo75_4 {R : Type} (N : Nat) : LoopOk E75 (it75 N (R := R)) (loopOf Tryz.f75 4) := lq 4 T75_4 (L75_4 N) fun K g => U75.r4 N g (J T75_4 .ret K) (J T75_4 (.exit 0) K)
def sp75 := spf A75 k75 U75.c U75.v
theorem ok75 : FnOk Tryz.prog T 75 sp75 := fq (E := E75) call_nil Tryz.func75 (it := fun N => it75 N) (fun N => (loops_cons (lo75_4 N) loops_nil)) U75.b U75.vo

def E134 := en [] [(4, [0, 1, 4, 5])]
def A134 : Fn [.R, .R] As := fun a b => [aH 3 a, aH 3 b]
def k134 : Fn [.B] Res := fun a => ⟨[aB a], []⟩
def T134_4 : Fn [.R, .R, .B, .I] Tb := fun a b c d => [cH 0 3 a, cH 2 3 b, cA 8 (.b c), cI 10 d]
def L134_4 (N : Nat) {R : Type} (K : Kt R) := U134.l4 N (J T134_4 .ret K) (J T134_4 (.exit 0) K)
def it134 (N : Nat) {R : Type} : It R := (lp 4 (al T134_4 (fun K => L134_4 N K N) an) ln)
theorem lo134_4 {R : Type} (N : Nat) : LoopOk E134 (it134 N (R := R)) (loopOf Tryz.f134 4) := lq 4 T134_4 (L134_4 N) fun K g => U134.r4 N g (J T134_4 .ret K) (J T134_4 (.exit 0) K)
def sp134 := spf A134 k134 (ct _) U134.v
theorem ok134 : FnOk Tryz.prog T 134 sp134 := fh (E := E134) call_nil Tryz.func134 (it := fun N => it134 N) (fun N => (loops_cons (lo134_4 N) loops_nil)) U134.b fun x f h => U134.b_eq _ x.1 x.2.1 f.1.1 f.2.1.1

def E110 := en [(134, sp134)] [(4, [0, 1, 4, 5])]
def A110 : Fn [.R, .R] As := fun a b => [aH 144 a, aH 144 b]
def k110 : Fn [.B] Res := fun a => ⟨[aB a], []⟩
def T110_4 : Fn [.R, .R, .B, .I] Tb := fun a b c d => [cH 0 144 a, cH 2 144 b, cA 8 (.b c), cI 10 d]
def L110_4 (N : Nat) {R : Type} (K : Kt R) := U110.l4 N (J T110_4 .ret K) (J T110_4 (.exit 0) K)
def it110 (N : Nat) {R : Type} : It R := (lp 4 (al T110_4 (fun K => L110_4 N K N) an) ln)
theorem lo110_4 {R : Type} (N : Nat) : LoopOk E110 (it110 N (R := R)) (loopOf Tryz.f110 4) := lq 4 T110_4 (L110_4 N) fun K g => U110.r4 N g (J T110_4 .ret K) (J T110_4 (.exit 0) K)
def sp110 := spf A110 k110 U110.c U110.v
theorem ok110 : FnOk Tryz.prog T 110 sp110 := fq (E := E110) (call_cons ok134 call_nil) Tryz.func110 (it := fun N => it110 N) (fun N => (loops_cons (lo110_4 N) loops_nil)) U110.b U110.vo

def E76 := en [(110, sp110)] []
def A76 : Fn [.R, .I, .R, .I] As := fun a b c d => [aV [.sh 144 a, .n b], aV [.sh 144 c, .n d]]
def k76 : Fn [.B] Res := fun a => ⟨[aB a], []⟩
def sp76 := spf A76 k76 U76.c U76.v
theorem ok76 : FnOk Tryz.prog T 76 sp76 := fr (E := E76) (call_cons ok110 call_nil) Tryz.func76 U76.b U76.vo

def E36 := en [(75, sp75), (76, sp76)] []
def A36 : Fn [.R, .R, .R, .I, .R, .R, .R, .I] As := fun a b c d e f g h => [aV [.sh 9 a, .sh 9 b, .sh 144 c, .n d], aV [.sh 9 e, .sh 9 f, .sh 144 g, .n h]]
def k36 : Fn [.B] Res := fun a => ⟨[aB a], []⟩
def sp36 := spf A36 k36 U36.c U36.v
theorem ok36 : FnOk Tryz.prog T 36 sp36 := fr (E := E36) (call_cons ok75 (call_cons ok76 call_nil)) Tryz.func36 U36.b U36.vo

def E77 := en [] []
def A77 : Fn [.S, .S, .I, .I, .I, .S, .S, .I, .I, .I] As := fun a b c d e f g h i j => [aV [.s a, .s b, .n c, .n d, .n e], aV [.s f, .s g, .n h, .n i, .n j]]
def k77 : Fn [.B] Res := fun a => ⟨[aB a], []⟩
def sp77 := spf A77 k77 (ct _) U77.v
theorem ok77 : FnOk Tryz.prog T 77 sp77 := ft (E := E77) call_nil Tryz.func77 U77.b fun (a0, a1, a2, a3, a4, a5, a6, a7, a8, a9, _) => U77.b_eq _ a0 a1 a2 a3 a4 a5 a6 a7 a8 a9

def E37 := en [(77, sp77)] [(4, [0, 1, 4, 5])]
def A37 : Fn [.R, .R] As := fun a b => [aH 64 a, aH 64 b]
def k37 : Fn [.B] Res := fun a => ⟨[aB a], []⟩
def T37_4 : Fn [.R, .R, .B, .I] Tb := fun a b c d => [cH 0 64 a, cH 2 64 b, cA 8 (.b c), cI 10 d]
def L37_4 (N : Nat) {R : Type} (K : Kt R) := U37.l4 N (J T37_4 .ret K) (J T37_4 (.exit 0) K)
def it37 (N : Nat) {R : Type} : It R := (lp 4 (al T37_4 (fun K => L37_4 N K N) an) ln)
theorem lo37_4 {R : Type} (N : Nat) : LoopOk E37 (it37 N (R := R)) (loopOf Tryz.f37 4) := lq 4 T37_4 (L37_4 N) fun K g => U37.r4 N g (J T37_4 .ret K) (J T37_4 (.exit 0) K)
def sp37 := spf A37 k37 U37.c U37.v
theorem ok37 : FnOk Tryz.prog T 37 sp37 := fq (E := E37) (call_cons ok77 call_nil) Tryz.func37 (it := fun N => it37 N) (fun N => (loops_cons (lo37_4 N) loops_nil)) U37.b U37.vo

def E78 := en [] []
def A78 : Fn [.I, .S, .I, .I, .I, .S, .I, .I, .S, .I, .I, .I, .S, .I] As := fun a b c d e f g h i j k l m o => [aV [.n a, .s b, .n c, .n d, .n e, .s f, .n g], aV [.n h, .s i, .n j, .n k, .n l, .s m, .n o]]
def k78 : Fn [.B] Res := fun a => ⟨[aB a], []⟩
def sp78 := spf A78 k78 (ct _) U78.v
theorem ok78 : FnOk Tryz.prog T 78 sp78 := ft (E := E78) call_nil Tryz.func78 U78.b fun (a0, a1, a2, a3, a4, a5, a6, a7, a8, a9, a10, a11, a12, a13, _) => U78.b_eq _ a0 a1 a2 a3 a4 a5 a6 a7 a8 a9 a10 a11 a12 a13

def E38 := en [(78, sp78)] [(4, [0, 1, 4, 5])]
def A38 : Fn [.R, .R] As := fun a b => [aH 106 a, aH 106 b]
def k38 : Fn [.B] Res := fun a => ⟨[aB a], []⟩
def T38_4 : Fn [.R, .R, .B, .I] Tb := fun a b c d => [cH 0 106 a, cH 2 106 b, cA 8 (.b c), cI 10 d]
def L38_4 (N : Nat) {R : Type} (K : Kt R) := U38.l4 N (J T38_4 .ret K) (J T38_4 (.exit 0) K)
def it38 (N : Nat) {R : Type} : It R := (lp 4 (al T38_4 (fun K => L38_4 N K N) an) ln)
theorem lo38_4 {R : Type} (N : Nat) : LoopOk E38 (it38 N (R := R)) (loopOf Tryz.f38 4) := lq 4 T38_4 (L38_4 N) fun K g => U38.r4 N g (J T38_4 .ret K) (J T38_4 (.exit 0) K)
def sp38 := spf A38 k38 U38.c U38.v
theorem ok38 : FnOk Tryz.prog T 38 sp38 := fq (E := E38) (call_cons ok78 call_nil) Tryz.func38 (it := fun N => it38 N) (fun N => (loops_cons (lo38_4 N) loops_nil)) U38.b U38.vo

def E11 := en [(20, sp20), (36, sp36), (37, sp37), (38, sp38)] []
def A11 : Fn [.I, .R, .R, .R, .R, .I, .R, .R, .I, .I, .R, .R, .R, .R, .I, .R, .R, .I] As := fun a b c d e f g h i j k l m o p q r s => [aV [.n a, .sh 88 b, .sh 9 c, .sh 9 d, .sh 144 e, .n f, .sh 64 g, .sh 106 h, .n i], aV [.n j, .sh 88 k, .sh 9 l, .sh 9 m, .sh 144 o, .n p, .sh 64 q, .sh 106 r, .n s]]
def k11 : Fn [.B] Res := fun a => ⟨[aB a], []⟩
def sp11 := spf A11 k11 U11.c U11.v
theorem ok11 : FnOk Tryz.prog T 11 sp11 := fr (E := E11) (call_cons ok20 (call_cons ok36 (call_cons ok37 (call_cons ok38 call_nil)))) Tryz.func11 U11.b U11.vo

def E59 := en [] [(4, [0, 3])]
def A59 : Fn [.I] As := fun a => [aI a]
def k59 : Fn [.S] Res := fun a => ⟨[aS a], []⟩
def T59_4 : Fn [.I, .S] Tb := fun a b => [cI 0 a, cA 6 (.s b)]
def L59_4 (N : Nat) {R : Type} (K : Kt R) := U59.l4 N (J T59_4 (.exit 0) K)
def it59 (N : Nat) {R : Type} : It R := (lp 4 (al T59_4 (fun K => L59_4 N K N) an) ln)
theorem lo59_4 {R : Type} (N : Nat) : LoopOk E59 (it59 N (R := R)) (loopOf Tryz.f59 4) := lq 4 T59_4 (L59_4 N) fun K g => U59.r4 N g (J T59_4 (.exit 0) K)
def sp59 := spf A59 k59 U59.c U59.v
theorem ok59 : FnOk Tryz.prog T 59 sp59 := fq (E := E59) call_nil Tryz.func59 (it := fun N => it59 N) (fun N => (loops_cons (lo59_4 N) loops_nil)) U59.b U59.vo

def E21 := en [(59, sp59)] [(2, [0, 1, 5])]
def A21 : Fn [.R, .I] As := fun a b => [aO 88 a, aI b]
def k21 : Fn [.I, .R] Res := fun a b => ⟨[aI a], [[.kp b]]⟩
def T21_2 : Fn [.I, .I, .R] Tb := fun a b c => [cA 0 (.own 900000000), cI 2 a, cI 10 b, oR 1800000001 88 c]
def L21_2 (N : Nat) {R : Type} (K : Kt R) := U21.l2 N (J T21_2 (.exit 0) K)
def it21 (N : Nat) {R : Type} : It R := (lp 2 (al T21_2 (fun K => L21_2 N K N) an) ln)
theorem lo21_2 {R : Type} (N : Nat) : LoopOk E21 (it21 N (R := R)) (loopOf Tryz.f21 2) := lq 2 T21_2 (L21_2 N) fun K g => U21.r2 N g (J T21_2 (.exit 0) K)
def sp21 := spf A21 k21 U21.c U21.v
theorem ok21 : FnOk Tryz.prog T 21 sp21 := fq (E := E21) (call_cons ok59 call_nil) Tryz.func21 (it := fun N => it21 N) (fun N => (loops_cons (lo21_2 N) loops_nil)) U21.b U21.vo

def E79 := en [(59, sp59)] [(2, [0, 1, 5])]
def A79 : Fn [.R, .I] As := fun a b => [aO 9 a, aI b]
def k79 : Fn [.I, .R] Res := fun a b => ⟨[aI a], [[.kp b]]⟩
def T79_2 : Fn [.I, .I, .R] Tb := fun a b c => [cA 0 (.own 900000000), cI 2 a, cI 10 b, oR 1800000001 9 c]
def L79_2 (N : Nat) {R : Type} (K : Kt R) := U79.l2 N (J T79_2 (.exit 0) K)
def it79 (N : Nat) {R : Type} : It R := (lp 2 (al T79_2 (fun K => L79_2 N K N) an) ln)
theorem lo79_2 {R : Type} (N : Nat) : LoopOk E79 (it79 N (R := R)) (loopOf Tryz.f79 2) := lq 2 T79_2 (L79_2 N) fun K g => U79.r2 N g (J T79_2 (.exit 0) K)
def sp79 := spf A79 k79 U79.c U79.v
theorem ok79 : FnOk Tryz.prog T 79 sp79 := fq (E := E79) (call_cons ok59 call_nil) Tryz.func79 (it := fun N => it79 N) (fun N => (loops_cons (lo79_2 N) loops_nil)) U79.b U79.vo

def E135 := en [] [(2, [0, 1, 5])]
def A135 : Fn [.R, .I] As := fun a b => [aO 3 a, aI b]
def k135 : Fn [.I, .R] Res := fun a b => ⟨[aI a], [[.kp b]]⟩
def T135_2 : Fn [.I, .I, .R] Tb := fun a b c => [cA 0 (.own 900000000), cI 2 a, cI 10 b, oR 1800000001 3 c]
def L135_2 (N : Nat) {R : Type} (K : Kt R) := U135.l2 N (J T135_2 (.exit 0) K)
def it135 (N : Nat) {R : Type} : It R := (lp 2 (al T135_2 (fun K => L135_2 N K N) an) ln)
theorem lo135_2 {R : Type} (N : Nat) : LoopOk E135 (it135 N (R := R)) (loopOf Tryz.f135 2) := lq 2 T135_2 (L135_2 N) fun K g => U135.r2 N g (J T135_2 (.exit 0) K)
def sp135 := spf A135 k135 U135.c U135.v
theorem ok135 : FnOk Tryz.prog T 135 sp135 := fq (E := E135) call_nil Tryz.func135 (it := fun N => it135 N) (fun N => (loops_cons (lo135_2 N) loops_nil)) U135.b U135.vo

def E111 := en [(135, sp135)] [(2, [0, 1, 5])]
def A111 : Fn [.R, .I] As := fun a b => [aO 144 a, aI b]
def k111 : Fn [.I, .R] Res := fun a b => ⟨[aI a], [[.kp b]]⟩
def T111_2 : Fn [.I, .I, .R] Tb := fun a b c => [cA 0 (.own 900000000), cI 2 a, cI 10 b, oR 1800000001 144 c]
def L111_2 (N : Nat) {R : Type} (K : Kt R) := U111.l2 N (J T111_2 (.exit 0) K)
def it111 (N : Nat) {R : Type} : It R := (lp 2 (al T111_2 (fun K => L111_2 N K N) an) ln)
theorem lo111_2 {R : Type} (N : Nat) : LoopOk E111 (it111 N (R := R)) (loopOf Tryz.f111 2) := lq 2 T111_2 (L111_2 N) fun K g => U111.r2 N g (J T111_2 (.exit 0) K)
def sp111 := spf A111 k111 U111.c U111.v
theorem ok111 : FnOk Tryz.prog T 111 sp111 := fq (E := E111) (call_cons ok135 call_nil) Tryz.func111 (it := fun N => it111 N) (fun N => (loops_cons (lo111_2 N) loops_nil)) U111.b U111.vo

def E80 := en [(111, sp111)] []
def A80 : Fn [.R, .I, .I] As := fun a b c => [aV [.ow 144 true a, .n b], aI c]
def k80 : Fn [.I, .R] Res := fun a b => ⟨[aI a], [[.kp b, .nl]]⟩
def sp80 := spf A80 k80 U80.c U80.v
theorem ok80 : FnOk Tryz.prog T 80 sp80 := fr (E := E80) (call_cons ok111 call_nil) Tryz.func80 U80.b U80.vo

def E39 := en [(79, sp79), (80, sp80)] []
def A39 : Fn [.R, .R, .R, .I, .I] As := fun a b c d e => [aV [.ow 9 true a, .ow 9 true b, .ow 144 true c, .n d], aI e]
def k39 : Fn [.I, .R, .R, .R] Res := fun a b c d => ⟨[aI a], [[.kp b, .kp c, .kp d, .nl]]⟩
def sp39 := spf A39 k39 U39.c U39.v
theorem ok39 : FnOk Tryz.prog T 39 sp39 := fr (E := E39) (call_cons ok79 (call_cons ok80 call_nil)) Tryz.func39 U39.b U39.vo

def E40 := en [(59, sp59)] [(2, [0, 1, 5])]
def A40 : Fn [.R, .I] As := fun a b => [aO 64 a, aI b]
def k40 : Fn [.I, .R] Res := fun a b => ⟨[aI a], [[.kp b]]⟩
def T40_2 : Fn [.I, .I, .R] Tb := fun a b c => [cA 0 (.own 900000000), cI 2 a, cI 10 b, oR 1800000001 64 c]
def L40_2 (N : Nat) {R : Type} (K : Kt R) := U40.l2 N (J T40_2 (.exit 0) K)
def it40 (N : Nat) {R : Type} : It R := (lp 2 (al T40_2 (fun K => L40_2 N K N) an) ln)
theorem lo40_2 {R : Type} (N : Nat) : LoopOk E40 (it40 N (R := R)) (loopOf Tryz.f40 2) := lq 2 T40_2 (L40_2 N) fun K g => U40.r2 N g (J T40_2 (.exit 0) K)
def sp40 := spf A40 k40 U40.c U40.v
theorem ok40 : FnOk Tryz.prog T 40 sp40 := fq (E := E40) (call_cons ok59 call_nil) Tryz.func40 (it := fun N => it40 N) (fun N => (loops_cons (lo40_2 N) loops_nil)) U40.b U40.vo

def E41 := en [(59, sp59)] [(2, [0, 1, 5])]
def A41 : Fn [.R, .I] As := fun a b => [aO 106 a, aI b]
def k41 : Fn [.I, .R] Res := fun a b => ⟨[aI a], [[.kp b]]⟩
def T41_2 : Fn [.I, .I, .R] Tb := fun a b c => [cA 0 (.own 900000000), cI 2 a, cI 10 b, oR 1800000001 106 c]
def L41_2 (N : Nat) {R : Type} (K : Kt R) := U41.l2 N (J T41_2 (.exit 0) K)
def it41 (N : Nat) {R : Type} : It R := (lp 2 (al T41_2 (fun K => L41_2 N K N) an) ln)
theorem lo41_2 {R : Type} (N : Nat) : LoopOk E41 (it41 N (R := R)) (loopOf Tryz.f41 2) := lq 2 T41_2 (L41_2 N) fun K g => U41.r2 N g (J T41_2 (.exit 0) K)
def sp41 := spf A41 k41 U41.c U41.v
theorem ok41 : FnOk Tryz.prog T 41 sp41 := fq (E := E41) (call_cons ok59 call_nil) Tryz.func41 (it := fun N => it41 N) (fun N => (loops_cons (lo41_2 N) loops_nil)) U41.b U41.vo

def E12 := en [(21, sp21), (39, sp39), (40, sp40), (41, sp41)] []
def A12 : Fn [.I, .R, .R, .R, .R, .I, .R, .R, .I, .I] As := fun a b c d e f g h i j => [aV [.n a, .ow 88 true b, .ow 9 true c, .ow 9 true d, .ow 144 true e, .n f, .ow 64 true g, .ow 106 true h, .n i], aI j]
def k12 : Fn [.I, .R, .R, .R, .R, .R, .R] Res := fun a b c d e f g => ⟨[aI a], [[.nl, .kp b, .kp c, .kp d, .kp e, .nl, .kp f, .kp g, .nl]]⟩
def sp12 := spf A12 k12 U12.c U12.v
theorem ok12 : FnOk Tryz.prog T 12 sp12 := fr (E := E12) (call_cons ok21 (call_cons ok39 (call_cons ok40 (call_cons ok41 call_nil)))) Tryz.func12 U12.b U12.vo

def E42 := en [(59, sp59)] [(2, [0, 1, 4, 5])]
def A42 : Fn [.R, .I] As := fun a b => [aH 88 a, aI b]
def k42 : Fn [.I] Res := fun a => ⟨[aI a], []⟩
def T42_2 : Fn [.R, .I, .I, .I] Tb := fun a b c d => [cH 0 88 a, cI 2 b, cI 8 c, cI 10 d]
def L42_2 (N : Nat) {R : Type} (K : Kt R) := U42.l2 N (J T42_2 .ret K) (J T42_2 (.exit 0) K)
def it42 (N : Nat) {R : Type} : It R := (lp 2 (al T42_2 (fun K => L42_2 N K N) an) ln)
theorem lo42_2 {R : Type} (N : Nat) : LoopOk E42 (it42 N (R := R)) (loopOf Tryz.f42 2) := lq 2 T42_2 (L42_2 N) fun K g => U42.r2 N g (J T42_2 .ret K) (J T42_2 (.exit 0) K)
def sp42 := spf A42 k42 U42.c U42.v
theorem ok42 : FnOk Tryz.prog T 42 sp42 := fq (E := E42) (call_cons ok59 call_nil) Tryz.func42 (it := fun N => it42 N) (fun N => (loops_cons (lo42_2 N) loops_nil)) U42.b U42.vo

def E81 := en [(59, sp59)] [(2, [0, 1, 4, 5])]
def A81 : Fn [.R, .I] As := fun a b => [aH 9 a, aI b]
def k81 : Fn [.I] Res := fun a => ⟨[aI a], []⟩
def T81_2 : Fn [.R, .I, .I, .I] Tb := fun a b c d => [cH 0 9 a, cI 2 b, cI 8 c, cI 10 d]
def L81_2 (N : Nat) {R : Type} (K : Kt R) := U81.l2 N (J T81_2 .ret K) (J T81_2 (.exit 0) K)
def it81 (N : Nat) {R : Type} : It R := (lp 2 (al T81_2 (fun K => L81_2 N K N) an) ln)
theorem lo81_2 {R : Type} (N : Nat) : LoopOk E81 (it81 N (R := R)) (loopOf Tryz.f81 2) := lq 2 T81_2 (L81_2 N) fun K g => U81.r2 N g (J T81_2 .ret K) (J T81_2 (.exit 0) K)
def sp81 := spf A81 k81 U81.c U81.v
theorem ok81 : FnOk Tryz.prog T 81 sp81 := fq (E := E81) (call_cons ok59 call_nil) Tryz.func81 (it := fun N => it81 N) (fun N => (loops_cons (lo81_2 N) loops_nil)) U81.b U81.vo

def E136 := en [] [(2, [0, 1, 4, 5])]
def A136 : Fn [.R, .I] As := fun a b => [aH 3 a, aI b]
def k136 : Fn [.I] Res := fun a => ⟨[aI a], []⟩
def T136_2 : Fn [.R, .I, .I, .I] Tb := fun a b c d => [cH 0 3 a, cI 2 b, cI 8 c, cI 10 d]
def L136_2 (N : Nat) {R : Type} (K : Kt R) := U136.l2 N (J T136_2 .ret K) (J T136_2 (.exit 0) K)
def it136 (N : Nat) {R : Type} : It R := (lp 2 (al T136_2 (fun K => L136_2 N K N) an) ln)
theorem lo136_2 {R : Type} (N : Nat) : LoopOk E136 (it136 N (R := R)) (loopOf Tryz.f136 2) := lq 2 T136_2 (L136_2 N) fun K g => U136.r2 N g (J T136_2 .ret K) (J T136_2 (.exit 0) K)
def sp136 := spf A136 k136 U136.c U136.v
theorem ok136 : FnOk Tryz.prog T 136 sp136 := fq (E := E136) call_nil Tryz.func136 (it := fun N => it136 N) (fun N => (loops_cons (lo136_2 N) loops_nil)) U136.b U136.vo

def E112 := en [(136, sp136)] [(2, [0, 1, 4, 5])]
def A112 : Fn [.R, .I] As := fun a b => [aH 144 a, aI b]
def k112 : Fn [.I] Res := fun a => ⟨[aI a], []⟩
def T112_2 : Fn [.R, .I, .I, .I] Tb := fun a b c d => [cH 0 144 a, cI 2 b, cI 8 c, cI 10 d]
def L112_2 (N : Nat) {R : Type} (K : Kt R) := U112.l2 N (J T112_2 .ret K) (J T112_2 (.exit 0) K)
def it112 (N : Nat) {R : Type} : It R := (lp 2 (al T112_2 (fun K => L112_2 N K N) an) ln)
theorem lo112_2 {R : Type} (N : Nat) : LoopOk E112 (it112 N (R := R)) (loopOf Tryz.f112 2) := lq 2 T112_2 (L112_2 N) fun K g => U112.r2 N g (J T112_2 .ret K) (J T112_2 (.exit 0) K)
def sp112 := spf A112 k112 U112.c U112.v
theorem ok112 : FnOk Tryz.prog T 112 sp112 := fq (E := E112) (call_cons ok136 call_nil) Tryz.func112 (it := fun N => it112 N) (fun N => (loops_cons (lo112_2 N) loops_nil)) U112.b U112.vo

def E82 := en [(112, sp112)] []
def A82 : Fn [.R, .I, .I] As := fun a b c => [aV [.sh 144 a, .n b], aI c]
def k82 : Fn [.I] Res := fun a => ⟨[aI a], []⟩
def sp82 := spf A82 k82 U82.c U82.v
theorem ok82 : FnOk Tryz.prog T 82 sp82 := fr (E := E82) (call_cons ok112 call_nil) Tryz.func82 U82.b U82.vo

def E43 := en [(81, sp81), (82, sp82)] []
def A43 : Fn [.R, .R, .R, .I, .I] As := fun a b c d e => [aV [.sh 9 a, .sh 9 b, .sh 144 c, .n d], aI e]
def k43 : Fn [.I] Res := fun a => ⟨[aI a], []⟩
def sp43 := spf A43 k43 U43.c U43.v
theorem ok43 : FnOk Tryz.prog T 43 sp43 := fr (E := E43) (call_cons ok81 (call_cons ok82 call_nil)) Tryz.func43 U43.b U43.vo

def E44 := en [(59, sp59)] [(2, [0, 1, 4, 5])]
def A44 : Fn [.R, .I] As := fun a b => [aH 64 a, aI b]
def k44 : Fn [.I] Res := fun a => ⟨[aI a], []⟩
def T44_2 : Fn [.R, .I, .I, .I] Tb := fun a b c d => [cH 0 64 a, cI 2 b, cI 8 c, cI 10 d]
def L44_2 (N : Nat) {R : Type} (K : Kt R) := U44.l2 N (J T44_2 .ret K) (J T44_2 (.exit 0) K)
def it44 (N : Nat) {R : Type} : It R := (lp 2 (al T44_2 (fun K => L44_2 N K N) an) ln)
theorem lo44_2 {R : Type} (N : Nat) : LoopOk E44 (it44 N (R := R)) (loopOf Tryz.f44 2) := lq 2 T44_2 (L44_2 N) fun K g => U44.r2 N g (J T44_2 .ret K) (J T44_2 (.exit 0) K)
def sp44 := spf A44 k44 U44.c U44.v
theorem ok44 : FnOk Tryz.prog T 44 sp44 := fq (E := E44) (call_cons ok59 call_nil) Tryz.func44 (it := fun N => it44 N) (fun N => (loops_cons (lo44_2 N) loops_nil)) U44.b U44.vo

def E45 := en [(59, sp59)] [(2, [0, 1, 4, 5])]
def A45 : Fn [.R, .I] As := fun a b => [aH 106 a, aI b]
def k45 : Fn [.I] Res := fun a => ⟨[aI a], []⟩
def T45_2 : Fn [.R, .I, .I, .I] Tb := fun a b c d => [cH 0 106 a, cI 2 b, cI 8 c, cI 10 d]
def L45_2 (N : Nat) {R : Type} (K : Kt R) := U45.l2 N (J T45_2 .ret K) (J T45_2 (.exit 0) K)
def it45 (N : Nat) {R : Type} : It R := (lp 2 (al T45_2 (fun K => L45_2 N K N) an) ln)
theorem lo45_2 {R : Type} (N : Nat) : LoopOk E45 (it45 N (R := R)) (loopOf Tryz.f45 2) := lq 2 T45_2 (L45_2 N) fun K g => U45.r2 N g (J T45_2 .ret K) (J T45_2 (.exit 0) K)
def sp45 := spf A45 k45 U45.c U45.v
theorem ok45 : FnOk Tryz.prog T 45 sp45 := fq (E := E45) (call_cons ok59 call_nil) Tryz.func45 (it := fun N => it45 N) (fun N => (loops_cons (lo45_2 N) loops_nil)) U45.b U45.vo

def E13 := en [(42, sp42), (43, sp43), (44, sp44), (45, sp45)] []
def A13 : Fn [.I, .R, .R, .R, .R, .I, .R, .R, .I, .I] As := fun a b c d e f g h i j => [aV [.n a, .sh 88 b, .sh 9 c, .sh 9 d, .sh 144 e, .n f, .sh 64 g, .sh 106 h, .n i], aI j]
def k13 : Fn [.I] Res := fun a => ⟨[aI a], []⟩
def sp13 := spf A13 k13 U13.c U13.v
theorem ok13 : FnOk Tryz.prog T 13 sp13 := fr (E := E13) (call_cons ok42 (call_cons ok43 (call_cons ok44 (call_cons ok45 call_nil)))) Tryz.func13 U13.b U13.vo

def E6 := en [(7, sp7), (9, sp9), (22, sp22), (23, sp23), (11, sp11), (12, sp12), (13, sp13)] []
def A6 : Fn [.I, .R, .R, .R, .R, .I, .R, .R, .I, .I, .I] As := fun a b c d e f g h i j k => [aV [.n a, .sh 85 b, .sh 9 c, .sh 9 d, .sh 144 e, .n f, .sh 100 g, .sh 103 h, .n i], aI j, aI k]
def k6 : Fn [.B] Res := fun a => ⟨[aB a], []⟩
def sp6 := spf A6 k6 U6.c U6.v
theorem ok6 : FnOk Tryz.prog T 6 sp6 := fr (E := E6) (call_cons ok7 (call_cons ok9 (call_cons ok22 (call_cons ok23 (call_cons ok11 (call_cons ok12 (call_cons ok13 call_nil))))))) Tryz.func6 U6.b U6.vo

end Go.FG.Se
