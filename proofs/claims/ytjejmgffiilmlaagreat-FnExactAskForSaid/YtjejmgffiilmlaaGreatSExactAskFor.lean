/- Functions of the program: the evaluation of each, and that a call of it does what is told. No condition. -/
import Derived.Test.YtjejmgffiilmlaaGreatTab
import Derived.Test.YtjejmgffiilmlaaGreatPExactAskFor
import Derived.Test.YtjejmgffiilmlaaGreatIns
set_option linter.unusedVariables false
set_option linter.unusedSimpArgs false
set_option maxRecDepth 100000
namespace Go.FG.Se
open Go.Proofs
def E135 := en [] []
def A135 : Fn [.S, .I, .I, .S, .I] As := fun a b c d e => [aV [.s a, .n b, .n c, .s d], aI e]
def k135 : Fn [.I] Res := fun a => ⟨[aI a], []⟩
def sp135 := spf A135 k135 (ct _) U135.v
theorem ok135 : FnOk Tryz.prog T 135 sp135 := ft (E := E135) call_nil Tryz.func135 U135.b fun (a0, a1, a2, a3, a4, _) => U135.b_eq _ a0 a1 a2 a3 a4

def E44 := en [(135, sp135)] [(5, [0, 1, 4, 5])]
def A44 : Fn [.R, .I] As := fun a b => [aH 157 a, aI b]
def k44 : Fn [.I] Res := fun a => ⟨[aI a], []⟩
def T44_5 : Fn [.R, .I, .I, .I] Tb := fun a b c d => [cH 0 157 a, cI 2 b, cI 8 c, cI 10 d]
def L44_5 (N : Nat) {R : Type} (K : Kt R) := U44.l5 N (J T44_5 .ret K) (J T44_5 (.exit 0) K)
def it44 (N : Nat) {R : Type} : It R := (lp 5 (al T44_5 (fun K => L44_5 N K N) an) ln)
theorem lo44_5 {R : Type} (N : Nat) : LoopOk E44 (it44 N (R := R)) (loopOf Tryz.f44 5) := lq 5 T44_5 (L44_5 N) fun K g => U44.r5 N g (J T44_5 .ret K) (J T44_5 (.exit 0) K)
def sp44 := spf A44 k44 U44.c U44.v
theorem ok44 : FnOk Tryz.prog T 44 sp44 := fq (E := E44) (call_cons ok135 call_nil) Tryz.func44 (it := fun N => it44 N) (fun N => (loops_cons (lo44_5 N) loops_nil)) U44.b U44.vo

def E136 := en [] [(5, [0, 1, 4, 5])]
def A136 : Fn [.R, .I] As := fun a b => [aH 9 a, aI b]
def k136 : Fn [.I] Res := fun a => ⟨[aI a], []⟩
def T136_5 : Fn [.R, .I, .I, .I] Tb := fun a b c d => [cH 0 9 a, cI 2 b, cI 8 c, cI 10 d]
def L136_5 (N : Nat) {R : Type} (K : Kt R) := U136.l5 N (J T136_5 .ret K) (J T136_5 (.exit 0) K)
def it136 (N : Nat) {R : Type} : It R := (lp 5 (al T136_5 (fun K => L136_5 N K N) an) ln)
theorem lo136_5 {R : Type} (N : Nat) : LoopOk E136 (it136 N (R := R)) (loopOf Tryz.f136 5) := lq 5 T136_5 (L136_5 N) fun K g => U136.r5 N g (J T136_5 .ret K) (J T136_5 (.exit 0) K)
def sp136 := spf A136 k136 U136.c U136.v
theorem ok136 : FnOk Tryz.prog T 136 sp136 := fq (E := E136) call_nil Tryz.func136 (it := fun N => it136 N) (fun N => (loops_cons (lo136_5 N) loops_nil)) U136.b U136.vo

def E110 := en [] []
def A110 : Fn [.R, .I] As := fun a b => [aH 3 a, aI b]
def k110 : Fn [.I] Res := fun a => ⟨[aI a], []⟩
def sp110 := spf A110 k110 (ct _) U110.v
theorem ok110 : FnOk Tryz.prog T 110 sp110 := ft (E := E110) call_nil Tryz.func110 U110.b fun (a0, a1, _) => U110.b_eq _ a0 a1

def E214 := en [(110, sp110)] [(5, [0, 1, 4, 5])]
def A214 : Fn [.R, .I] As := fun a b => [aH 59 a, aI b]
def k214 : Fn [.I] Res := fun a => ⟨[aI a], []⟩
def T214_5 : Fn [.R, .I, .I, .I] Tb := fun a b c d => [cH 0 59 a, cI 2 b, cI 8 c, cI 10 d]
def L214_5 (N : Nat) {R : Type} (K : Kt R) := U214.l5 N (J T214_5 .ret K) (J T214_5 (.exit 0) K)
def it214 (N : Nat) {R : Type} : It R := (lp 5 (al T214_5 (fun K => L214_5 N K N) an) ln)
theorem lo214_5 {R : Type} (N : Nat) : LoopOk E214 (it214 N (R := R)) (loopOf Tryz.f214 5) := lq 5 T214_5 (L214_5 N) fun K g => U214.r5 N g (J T214_5 .ret K) (J T214_5 (.exit 0) K)
def sp214 := spf A214 k214 U214.c U214.v
theorem ok214 : FnOk Tryz.prog T 214 sp214 := fq (E := E214) (call_cons ok110 call_nil) Tryz.func214 (it := fun N => it214 N) (fun N => (loops_cons (lo214_5 N) loops_nil)) U214.b U214.vo

def E137 := en [(214, sp214)] []
def A137 : Fn [.R, .I, .I] As := fun a b c => [aV [.sh 59 a, .n b], aI c]
def k137 : Fn [.I] Res := fun a => ⟨[aI a], []⟩
def sp137 := spf A137 k137 U137.c U137.v
theorem ok137 : FnOk Tryz.prog T 137 sp137 := fr (E := E137) (call_cons ok214 call_nil) Tryz.func137 U137.b U137.vo

def E45 := en [(136, sp136), (137, sp137)] []
def A45 : Fn [.R, .R, .R, .I, .I] As := fun a b c d e => [aV [.sh 9 a, .sh 9 b, .sh 59 c, .n d], aI e]
def k45 : Fn [.I] Res := fun a => ⟨[aI a], []⟩
def sp45 := spf A45 k45 U45.c U45.v
theorem ok45 : FnOk Tryz.prog T 45 sp45 := fr (E := E45) (call_cons ok136 (call_cons ok137 call_nil)) Tryz.func45 U45.b U45.vo

def E138 := en [] []
def A138 : Fn [.S, .S, .I, .I, .I, .I] As := fun a b c d e f => [aV [.s a, .s b, .n c, .n d, .n e], aI f]
def k138 : Fn [.I] Res := fun a => ⟨[aI a], []⟩
def sp138 := spf A138 k138 (ct _) U138.v
theorem ok138 : FnOk Tryz.prog T 138 sp138 := ft (E := E138) call_nil Tryz.func138 U138.b fun (a0, a1, a2, a3, a4, a5, _) => U138.b_eq _ a0 a1 a2 a3 a4 a5

def E46 := en [(138, sp138)] [(5, [0, 1, 4, 5])]
def A46 : Fn [.R, .I] As := fun a b => [aH 161 a, aI b]
def k46 : Fn [.I] Res := fun a => ⟨[aI a], []⟩
def T46_5 : Fn [.R, .I, .I, .I] Tb := fun a b c d => [cH 0 161 a, cI 2 b, cI 8 c, cI 10 d]
def L46_5 (N : Nat) {R : Type} (K : Kt R) := U46.l5 N (J T46_5 .ret K) (J T46_5 (.exit 0) K)
def it46 (N : Nat) {R : Type} : It R := (lp 5 (al T46_5 (fun K => L46_5 N K N) an) ln)
theorem lo46_5 {R : Type} (N : Nat) : LoopOk E46 (it46 N (R := R)) (loopOf Tryz.f46 5) := lq 5 T46_5 (L46_5 N) fun K g => U46.r5 N g (J T46_5 .ret K) (J T46_5 (.exit 0) K)
def sp46 := spf A46 k46 U46.c U46.v
theorem ok46 : FnOk Tryz.prog T 46 sp46 := fq (E := E46) (call_cons ok138 call_nil) Tryz.func46 (it := fun N => it46 N) (fun N => (loops_cons (lo46_5 N) loops_nil)) U46.b U46.vo

def E139 := en [] []
def A139 : Fn [.I, .S, .I, .I, .I, .S, .I, .I] As := fun a b c d e f g h => [aV [.n a, .s b, .n c, .n d, .n e, .s f, .n g], aI h]
def k139 : Fn [.I] Res := fun a => ⟨[aI a], []⟩
def sp139 := spf A139 k139 (ct _) U139.v
theorem ok139 : FnOk Tryz.prog T 139 sp139 := ft (E := E139) call_nil Tryz.func139 U139.b fun (a0, a1, a2, a3, a4, a5, a6, a7, _) => U139.b_eq _ a0 a1 a2 a3 a4 a5 a6 a7

def E47 := en [(139, sp139)] [(5, [0, 1, 4, 5])]
def A47 : Fn [.R, .I] As := fun a b => [aH 163 a, aI b]
def k47 : Fn [.I] Res := fun a => ⟨[aI a], []⟩
def T47_5 : Fn [.R, .I, .I, .I] Tb := fun a b c d => [cH 0 163 a, cI 2 b, cI 8 c, cI 10 d]
def L47_5 (N : Nat) {R : Type} (K : Kt R) := U47.l5 N (J T47_5 .ret K) (J T47_5 (.exit 0) K)
def it47 (N : Nat) {R : Type} : It R := (lp 5 (al T47_5 (fun K => L47_5 N K N) an) ln)
theorem lo47_5 {R : Type} (N : Nat) : LoopOk E47 (it47 N (R := R)) (loopOf Tryz.f47 5) := lq 5 T47_5 (L47_5 N) fun K g => U47.r5 N g (J T47_5 .ret K) (J T47_5 (.exit 0) K)
def sp47 := spf A47 k47 U47.c U47.v
theorem ok47 : FnOk Tryz.prog T 47 sp47 := fq (E := E47) (call_cons ok139 call_nil) Tryz.func47 (it := fun N => it47 N) (fun N => (loops_cons (lo47_5 N) loops_nil)) U47.b U47.vo

def E8 := en [(44, sp44), (45, sp45), (46, sp46), (47, sp47)] []
def A8 : Fn [.I, .R, .R, .R, .R, .I, .R, .R, .I, .I] As := fun a b c d e f g h i j => [aV [.n a, .sh 157 b, .sh 9 c, .sh 9 d, .sh 59 e, .n f, .sh 161 g, .sh 163 h, .n i], aI j]
def k8 : Fn [.I] Res := fun a => ⟨[aI a], []⟩
def sp8 := spf A8 k8 U8.c U8.v
theorem ok8 : FnOk Tryz.prog T 8 sp8 := fr (E := E8) (call_cons ok44 (call_cons ok45 (call_cons ok46 (call_cons ok47 call_nil)))) Tryz.func8 U8.b U8.vo

def E149 := en [] []
def A149 : Fn [.S, .I, .I, .S] As := fun a b c d => [aV [.s a, .n b, .n c, .s d]]
def k149 : Fn [.S, .I, .I, .S] Res := fun a b c d => ⟨[aV [.s a, .n b, .n c, .s d]], []⟩
def sp149 := spf A149 k149 (ct _) U149.v
theorem ok149 : FnOk Tryz.prog T 149 sp149 := ft (E := E149) call_nil Tryz.func149 U149.b fun (a0, a1, a2, a3, _) => U149.b_eq _ a0 a1 a2 a3

def E58 := en [(149, sp149)] [(3, [0, 3, 4])]
def A58 : Fn [.R] As := fun a => [aH 157 a]
def k58 : Fn [.R] Res := fun a => ⟨[aO 92 a], []⟩
def T58_3 : Fn [.R, .I, .R] Tb := fun a b c => [cH 0 157 a, cA 6 (.own 0), cI 8 b, oR 1 92 c]
def L58_3 (N : Nat) {R : Type} (K : Kt R) := U58.l3 N (J T58_3 (.exit 0) K)
def it58 (N : Nat) {R : Type} : It R := (lp 3 (al T58_3 (fun K => L58_3 N K N) an) ln)
theorem lo58_3 {R : Type} (N : Nat) : LoopOk E58 (it58 N (R := R)) (loopOf Tryz.f58 3) := lq 3 T58_3 (L58_3 N) fun K g => U58.r3 N g (J T58_3 (.exit 0) K)
def sp58 := spf A58 k58 U58.c U58.v
theorem ok58 : FnOk Tryz.prog T 58 sp58 := fq (E := E58) (call_cons ok149 call_nil) Tryz.func58 (it := fun N => it58 N) (fun N => (loops_cons (lo58_3 N) loops_nil)) U58.b U58.vo

def E150 := en [] [(3, [0, 3, 4])]
def A150 : Fn [.R] As := fun a => [aH 9 a]
def k150 : Fn [.R] Res := fun a => ⟨[aO 9 a], []⟩
def T150_3 : Fn [.R, .I, .R] Tb := fun a b c => [cH 0 9 a, cA 6 (.own 0), cI 8 b, oR 1 9 c]
def L150_3 (N : Nat) {R : Type} (K : Kt R) := U150.l3 N (J T150_3 (.exit 0) K)
def it150 (N : Nat) {R : Type} : It R := (lp 3 (al T150_3 (fun K => L150_3 N K N) an) ln)
theorem lo150_3 {R : Type} (N : Nat) : LoopOk E150 (it150 N (R := R)) (loopOf Tryz.f150 3) := lq 3 T150_3 (L150_3 N) fun K g => U150.r3 N g (J T150_3 (.exit 0) K)
def sp150 := spf A150 k150 U150.c U150.v
theorem ok150 : FnOk Tryz.prog T 150 sp150 := fq (E := E150) call_nil Tryz.func150 (it := fun N => it150 N) (fun N => (loops_cons (lo150_3 N) loops_nil)) U150.b U150.vo

def E117 := en [] [(3, [0, 3, 4])]
def A117 : Fn [.R] As := fun a => [aH 3 a]
def k117 : Fn [.R] Res := fun a => ⟨[aO 3 a], []⟩
def T117_3 : Fn [.R, .I, .R] Tb := fun a b c => [cH 0 3 a, cA 6 (.own 0), cI 8 b, oR 1 3 c]
def L117_3 (N : Nat) {R : Type} (K : Kt R) := U117.l3 N (J T117_3 (.exit 0) K)
def it117 (N : Nat) {R : Type} : It R := (lp 3 (al T117_3 (fun K => L117_3 N K N) an) ln)
theorem lo117_3 {R : Type} (N : Nat) : LoopOk E117 (it117 N (R := R)) (loopOf Tryz.f117 3) := lq 3 T117_3 (L117_3 N) fun K g => U117.r3 N g (J T117_3 (.exit 0) K)
def sp117 := spf A117 k117 U117.c U117.v
theorem ok117 : FnOk Tryz.prog T 117 sp117 := fh (E := E117) call_nil Tryz.func117 (it := fun N => it117 N) (fun N => (loops_cons (lo117_3 N) loops_nil)) U117.b fun x f h => U117.b_eq _ x.1 h

def E216 := en [(117, sp117)] [(3, [0, 3, 4])]
def A216 : Fn [.R] As := fun a => [aH 59 a]
def k216 : Fn [.R] Res := fun a => ⟨[aO 59 a], []⟩
def T216_3 : Fn [.R, .I, .R] Tb := fun a b c => [cH 0 59 a, cA 6 (.own 999), cI 8 b, oR 1999 59 c]
def L216_3 (N : Nat) {R : Type} (K : Kt R) := U216.l3 N (J T216_3 (.exit 0) K)
def it216 (N : Nat) {R : Type} : It R := (lp 3 (al T216_3 (fun K => L216_3 N K N) an) ln)
theorem lo216_3 {R : Type} (N : Nat) : LoopOk E216 (it216 N (R := R)) (loopOf Tryz.f216 3) := lq 3 T216_3 (L216_3 N) fun K g => U216.r3 N g (J T216_3 (.exit 0) K)
def sp216 := spf A216 k216 U216.c U216.v
theorem ok216 : FnOk Tryz.prog T 216 sp216 := fq (E := E216) (call_cons ok117 call_nil) Tryz.func216 (it := fun N => it216 N) (fun N => (loops_cons (lo216_3 N) loops_nil)) U216.b U216.vo

def E151 := en [(216, sp216)] []
def A151 : Fn [.R, .I] As := fun a b => [aV [.sh 59 a, .n b]]
def k151 : Fn [.R, .I] Res := fun a b => ⟨[aV [.ow 59 true a, .n b]], []⟩
def sp151 := spf A151 k151 U151.c U151.v
theorem ok151 : FnOk Tryz.prog T 151 sp151 := fr (E := E151) (call_cons ok216 call_nil) Tryz.func151 U151.b U151.vo

def E59 := en [(150, sp150), (151, sp151)] []
def A59 : Fn [.R, .R, .R, .I] As := fun a b c d => [aV [.sh 9 a, .sh 9 b, .sh 59 c, .n d]]
def k59 : Fn [.R, .R, .R, .I] Res := fun a b c d => ⟨[aV [.ow 9 true a, .ow 9 true b, .ow 59 true c, .n d]], []⟩
def sp59 := spf A59 k59 U59.c U59.v
theorem ok59 : FnOk Tryz.prog T 59 sp59 := fr (E := E59) (call_cons ok150 (call_cons ok151 call_nil)) Tryz.func59 U59.b U59.vo

def E152 := en [] []
def A152 : Fn [.S, .S, .I, .I, .I] As := fun a b c d e => [aV [.s a, .s b, .n c, .n d, .n e]]
def k152 : Fn [.S, .S, .I, .I, .I] Res := fun a b c d e => ⟨[aV [.s a, .s b, .n c, .n d, .n e]], []⟩
def sp152 := spf A152 k152 (ct _) U152.v
theorem ok152 : FnOk Tryz.prog T 152 sp152 := ft (E := E152) call_nil Tryz.func152 U152.b fun (a0, a1, a2, a3, a4, _) => U152.b_eq _ a0 a1 a2 a3 a4

def E60 := en [(152, sp152)] [(3, [0, 3, 4])]
def A60 : Fn [.R] As := fun a => [aH 161 a]
def k60 : Fn [.R] Res := fun a => ⟨[aO 100 a], []⟩
def T60_3 : Fn [.R, .I, .R] Tb := fun a b c => [cH 0 161 a, cA 6 (.own 0), cI 8 b, oR 1 100 c]
def L60_3 (N : Nat) {R : Type} (K : Kt R) := U60.l3 N (J T60_3 (.exit 0) K)
def it60 (N : Nat) {R : Type} : It R := (lp 3 (al T60_3 (fun K => L60_3 N K N) an) ln)
theorem lo60_3 {R : Type} (N : Nat) : LoopOk E60 (it60 N (R := R)) (loopOf Tryz.f60 3) := lq 3 T60_3 (L60_3 N) fun K g => U60.r3 N g (J T60_3 (.exit 0) K)
def sp60 := spf A60 k60 U60.c U60.v
theorem ok60 : FnOk Tryz.prog T 60 sp60 := fq (E := E60) (call_cons ok152 call_nil) Tryz.func60 (it := fun N => it60 N) (fun N => (loops_cons (lo60_3 N) loops_nil)) U60.b U60.vo

def E153 := en [] []
def A153 : Fn [.I, .S, .I, .I, .I, .S, .I] As := fun a b c d e f g => [aV [.n a, .s b, .n c, .n d, .n e, .s f, .n g]]
def k153 : Fn [.I, .S, .I, .I, .I, .S, .I] Res := fun a b c d e f g => ⟨[aV [.n a, .s b, .n c, .n d, .n e, .s f, .n g]], []⟩
def sp153 := spf A153 k153 (ct _) U153.v
theorem ok153 : FnOk Tryz.prog T 153 sp153 := ft (E := E153) call_nil Tryz.func153 U153.b fun (a0, a1, a2, a3, a4, a5, a6, _) => U153.b_eq _ a0 a1 a2 a3 a4 a5 a6

def E61 := en [(153, sp153)] [(3, [0, 3, 4])]
def A61 : Fn [.R] As := fun a => [aH 163 a]
def k61 : Fn [.R] Res := fun a => ⟨[aO 53 a], []⟩
def T61_3 : Fn [.R, .I, .R] Tb := fun a b c => [cH 0 163 a, cA 6 (.own 0), cI 8 b, oR 1 53 c]
def L61_3 (N : Nat) {R : Type} (K : Kt R) := U61.l3 N (J T61_3 (.exit 0) K)
def it61 (N : Nat) {R : Type} : It R := (lp 3 (al T61_3 (fun K => L61_3 N K N) an) ln)
theorem lo61_3 {R : Type} (N : Nat) : LoopOk E61 (it61 N (R := R)) (loopOf Tryz.f61 3) := lq 3 T61_3 (L61_3 N) fun K g => U61.r3 N g (J T61_3 (.exit 0) K)
def sp61 := spf A61 k61 U61.c U61.v
theorem ok61 : FnOk Tryz.prog T 61 sp61 := fq (E := E61) (call_cons ok153 call_nil) Tryz.func61 (it := fun N => it61 N) (fun N => (loops_cons (lo61_3 N) loops_nil)) U61.b U61.vo

def E10 := en [(58, sp58), (59, sp59), (60, sp60), (61, sp61)] []
def A10 : Fn [.I, .R, .R, .R, .R, .I, .R, .R, .I] As := fun a b c d e f g h i => [aV [.n a, .sh 157 b, .sh 9 c, .sh 9 d, .sh 59 e, .n f, .sh 161 g, .sh 163 h, .n i]]
def k10 : Fn [.I, .R, .R, .R, .R, .I, .R, .R, .I] Res := fun a b c d e f g h i => ⟨[aV [.n a, .ow 92 true b, .ow 9 true c, .ow 9 true d, .ow 59 true e, .n f, .ow 100 true g, .ow 53 true h, .n i]], []⟩
def sp10 := spf A10 k10 U10.c U10.v
theorem ok10 : FnOk Tryz.prog T 10 sp10 := fr (E := E10) (call_cons ok58 (call_cons ok59 (call_cons ok60 (call_cons ok61 call_nil)))) Tryz.func10 U10.b U10.vo

def E146 := en [] [(3, [1, 2, 3, 4])]
def A146 : Fn [.R, .I] As := fun a b => [aV [.sh 59 a, .n b]]
def k146 : Fn [.R, .I] Res := fun a b => ⟨[aV [.ow 59 true a, .n b]], []⟩
def T146_3 : Fn [.I, .R, .I, .I, .I] Tb := fun a b c d e => [cP 2 0, cP 4 1, cP 6 2, cI 8 a, oB 1 [.sh 59 b, .n c], oB 3 [.nl, .n d], oB 5 [.nl, .n e]]
def T146_3a : Fn [.I, .R, .I, .I, .I, .R] Tb := fun a b c d e f => [cP 2 0, cP 4 1, cP 6 2, cI 8 a, oB 1 [.sh 59 b, .n c], oB 3 [.nl, .n d], oB 5 [.own 3, .n e], oR 7 59 f]
def L146_3 (N : Nat) {R : Type} (K : Kt R) := U146.l3 N (J T146_3 (.exit 0) K) (J T146_3a (.exit 0) K)
def L146_3a (N : Nat) {R : Type} (K : Kt R) := U146.l3a N (J T146_3 (.exit 0) K) (J T146_3a (.exit 0) K)
def it146 (N : Nat) {R : Type} : It R := (lp 3 (al T146_3 (fun K => L146_3 N K N) (al T146_3a (fun K => L146_3a N K N) an)) ln)
theorem w146_3a {R : Type} (N : Nat) (K : Kt R) : Wd E146 (it146 N) (loopOf Tryz.f146 3) 3 K T146_3a (L146_3a N K) := lw (fun g => U146.r3a N (cmp _ T146_3 (g ∘ tabl)) (cmp _ T146_3a (g ∘ tabl)) (J T146_3 (.exit 0) K) (J T146_3a (.exit 0) K)) fun m i => by simp only [Function.comp_def, wf i]; rfl
theorem w146_3 {R : Type} (N : Nat) (K : Kt R) : Wd E146 (it146 N) (loopOf Tryz.f146 3) 3 K T146_3 (L146_3 N K) := lw (fun g => U146.r3 N (cmp _ T146_3 (g ∘ tabl)) (cmp _ T146_3a (g ∘ tabl)) (J T146_3 (.exit 0) K) (J T146_3a (.exit 0) K)) fun m i => by simp only [Function.comp_def, wf i, wf (w146_3a N K m)]; rfl
theorem lo146_3 {R : Type} (N : Nat) : LoopOk E146 (it146 N (R := R)) (loopOf Tryz.f146 3) := lm 3 (ga T146_3 (w146_3 N) (ga T146_3a (w146_3a N) good_an))
def sp146 := spf A146 k146 U146.c U146.v
theorem ok146 : FnOk Tryz.prog T 146 sp146 := fq (E := E146) call_nil Tryz.func146 (it := fun N => it146 N) (fun N => (loops_cons (lo146_3 N) loops_nil)) U146.b U146.vo

def E140 := en [(146, sp146)] []
def A140 : Fn [.R, .R, .R, .I] As := fun a b c d => [aV [.sh 9 a, .sh 9 b, .sh 59 c, .n d]]
def k140 : Fn [.R, .R, .R, .I] Res := fun a b c d => ⟨[aV [.ow 9 true a, .ow 9 true b, .ow 59 true c, .n d]], []⟩
def sp140 := spf A140 k140 U140.c U140.v
theorem ok140 : FnOk Tryz.prog T 140 sp140 := fr (E := E140) (call_cons ok146 call_nil) Tryz.func140 U140.b U140.vo

def E48 := en [(140, sp140)] []
def A48 : Fn [.I, .R, .R, .R, .R, .I, .R, .R, .I] As := fun a b c d e f g h i => [aV [.n a, .sh 92 b, .sh 9 c, .sh 9 d, .sh 59 e, .n f, .sh 100 g, .sh 53 h, .n i]]
def k48 : Fn [.I, .R, .R, .R, .R, .I, .R, .R, .I] Res := fun a b c d e f g h i => ⟨[aV [.n a, .ow 92 true b, .ow 9 true c, .ow 9 true d, .ow 59 true e, .n f, .ow 100 true g, .ow 53 true h, .n i]], []⟩
def sp48 := spf A48 k48 U48.c U48.v
theorem ok48 : FnOk Tryz.prog T 48 sp48 := fr (E := E48) (call_cons ok140 call_nil) Tryz.func48 U48.b U48.vo

def E49 := en [] []
def A49 : Fn [.I, .I, .I] As := fun a b c => [aI a, aI b, aI c]
def k49 : Fn [.B] Res := fun a => ⟨[aB a], []⟩
def sp49 := spf A49 k49 (ct _) U49.v
theorem ok49 : FnOk Tryz.prog T 49 sp49 := ft (E := E49) call_nil Tryz.func49 U49.b fun (a0, a1, a2, _) => U49.b_eq _ a0 a1 a2

def E50 := en [(49, sp49)] []
def A50 : Fn [.S] As := fun a => [aS a]
def k50 : Fn [.B] Res := fun a => ⟨[aB a], []⟩
def sp50 := spf A50 k50 (ct _) U50.v
theorem ok50 : FnOk Tryz.prog T 50 sp50 := ft (E := E50) (call_cons ok49 call_nil) Tryz.func50 U50.b fun (a0, _) => U50.b_eq _ a0

def E141 := en [(50, sp50), (49, sp49)] []
def A141 : Fn [.S, .I, .I, .S] As := fun a b c d => [aV [.s a, .n b, .n c, .s d]]
def k141 : Fn [.B] Res := fun a => ⟨[aB a], []⟩
def sp141 := spf A141 k141 (ct _) U141.v
theorem ok141 : FnOk Tryz.prog T 141 sp141 := ft (E := E141) (call_cons ok50 (call_cons ok49 call_nil)) Tryz.func141 U141.b fun (a0, a1, a2, a3, _) => U141.b_eq _ a0 a1 a2 a3

def E143 := en [] [(2, [0, 1, 4, 5])]
def A143 : Fn [.R, .S] As := fun a b => [aH 9 a, aS b]
def k143 : Fn [.B] Res := fun a => ⟨[aB a], []⟩
def T143_2 : Fn [.R, .S, .B, .I] Tb := fun a b c d => [cH 0 9 a, cA 2 (.s b), cA 8 (.b c), cI 10 d]
def L143_2 (N : Nat) {R : Type} (K : Kt R) := U143.l2 N (J T143_2 .ret K) (J T143_2 (.exit 0) K)
def it143 (N : Nat) {R : Type} : It R := (lp 2 (al T143_2 (fun K => L143_2 N K N) an) ln)
theorem lo143_2 {R : Type} (N : Nat) : LoopOk E143 (it143 N (R := R)) (loopOf Tryz.f143 2) := lq 2 T143_2 (L143_2 N) fun K g => U143.r2 N g (J T143_2 .ret K) (J T143_2 (.exit 0) K)
def sp143 := spf A143 k143 U143.c U143.v
theorem ok143 : FnOk Tryz.prog T 143 sp143 := fq (E := E143) call_nil Tryz.func143 (it := fun N => it143 N) (fun N => (loops_cons (lo143_2 N) loops_nil)) U143.b U143.vo

def E213 := en [(143, sp143)] []
def A213 : Fn [.R, .R, .R, .I, .S] As := fun a b c d e => [aV [.sh 9 a, .sh 9 b, .sh 59 c, .n d], aS e]
def k213 : Fn [.B] Res := fun a => ⟨[aB a], []⟩
def sp213 := spf A213 k213 U213.c U213.v
theorem ok213 : FnOk Tryz.prog T 213 sp213 := fr (E := E213) (call_cons ok143 call_nil) Tryz.func213 U213.b U213.vo

def E147 := en [(49, sp49)] [(4, [1, 2, 3]), (9, [1, 2, 3, 4])]
def A147 : Fn [.R, .I] As := fun a b => [aV [.sh 59 a, .n b]]
def k147 : Fn [.B] Res := fun a => ⟨[aB a], []⟩
def T147_4 : Fn [.B, .I, .R, .I] Tb := fun a b c d => [cP 2 0, cA 4 (.b a), cI 6 b, oB 1 [.sh 59 c, .n d]]
def T147_9 : Fn [.B, .I, .I, .R, .I] Tb := fun a b c d e => [cP 2 0, cA 4 (.b a), cI 6 b, cI 8 c, oB 1 [.sh 59 d, .n e]]
def L147_4 (N : Nat) {R : Type} (K : Kt R) := U147.l4 N (J T147_4 .ret K) (J T147_4 (.exit 0) K)
def L147_9 (N : Nat) {R : Type} (K : Kt R) := U147.l9 N (J T147_9 .ret K) (J T147_9 (.exit 2) K)
def it147 (N : Nat) {R : Type} : It R := (lp 4 (al T147_4 (fun K => L147_4 N K N) an) (lp 9 (al T147_9 (fun K => L147_9 N K N) an) ln))
theorem lo147_4 {R : Type} (N : Nat) : LoopOk E147 (it147 N (R := R)) (loopOf Tryz.f147 4) := lq 4 T147_4 (L147_4 N) fun K g => U147.r4 N g (J T147_4 .ret K) (J T147_4 (.exit 0) K)
theorem lo147_9 {R : Type} (N : Nat) : LoopOk E147 (it147 N (R := R)) (loopOf Tryz.f147 9) := lq 9 T147_9 (L147_9 N) fun K g => U147.r9 N g (J T147_9 .ret K) (J T147_9 (.exit 2) K)
def sp147 := spf A147 k147 U147.c U147.v
theorem ok147 : FnOk Tryz.prog T 147 sp147 := fq (E := E147) (call_cons ok49 call_nil) Tryz.func147 (it := fun N => it147 N) (fun N => (loops_cons (lo147_4 N) (loops_cons (lo147_9 N) loops_nil))) U147.b U147.vo

def E142 := en [(50, sp50), (143, sp143), (147, sp147)] [(3, [1, 2, 3, 4])]
def A142 : Fn [.R, .R, .R, .I] As := fun a b c d => [aV [.sh 9 a, .sh 9 b, .sh 59 c, .n d]]
def k142 : Fn [.B] Res := fun a => ⟨[aB a], []⟩
def T142_3 : Fn [.B, .I, .R, .R, .R, .I, .R] Tb := fun a b c d e f g => [cP 2 0, cA 4 (.b a), cA 6 (.own 1), cI 8 b, oB 1 [.sh 9 c, .sh 9 d, .sh 59 e, .n f], oR 3 9 g]
def L142_3 (N : Nat) {R : Type} (K : Kt R) := U142.l3 N (J T142_3 .ret K) (J T142_3 (.exit 0) K)
def it142 (N : Nat) {R : Type} : It R := (lp 3 (al T142_3 (fun K => L142_3 N K N) an) ln)
theorem lo142_3 {R : Type} (N : Nat) : LoopOk E142 (it142 N (R := R)) (loopOf Tryz.f142 3) := lq 3 T142_3 (L142_3 N) fun K g => U142.r3 N g (J T142_3 .ret K) (J T142_3 (.exit 0) K)
def sp142 := spf A142 k142 U142.c U142.v
theorem ok142 : FnOk Tryz.prog T 142 sp142 := fq (E := E142) (call_cons ok50 (call_cons ok143 (call_cons ok147 call_nil))) Tryz.func142 (it := fun N => it142 N) (fun N => (loops_cons (lo142_3 N) loops_nil)) U142.b U142.vo

def E133 := en [(141, sp141), (213, sp213), (142, sp142)] [(2, [1, 2, 3])]
def A133 : Fn [.I, .R, .R, .R, .R, .I, .R, .R, .I] As := fun a b c d e f g h i => [aV [.n a, .sh 92 b, .sh 9 c, .sh 9 d, .sh 59 e, .n f, .sh 100 g, .sh 53 h, .n i]]
def k133 : Fn [.B] Res := fun a => ⟨[aB a], []⟩
def T133_2 : Fn [.B, .I, .I, .R, .R, .R, .R, .I, .R, .R, .I] Tb := fun a b c d e f g h i j k => [cP 2 0, cA 4 (.b a), cI 6 b, oB 1 [.n c, .sh 92 d, .sh 9 e, .sh 9 f, .sh 59 g, .n h, .sh 100 i, .sh 53 j, .n k]]
def L133_2 (N : Nat) {R : Type} (K : Kt R) := U133.l2 N (J T133_2 .ret K) (J T133_2 (.exit 0) K)
def it133 (N : Nat) {R : Type} : It R := (lp 2 (al T133_2 (fun K => L133_2 N K N) an) ln)
theorem lo133_2 {R : Type} (N : Nat) : LoopOk E133 (it133 N (R := R)) (loopOf Tryz.f133 2) := lq 2 T133_2 (L133_2 N) fun K g => U133.r2 N g (J T133_2 .ret K) (J T133_2 (.exit 0) K)
def sp133 := spf A133 k133 U133.c U133.v
theorem ok133 : FnOk Tryz.prog T 133 sp133 := fq (E := E133) (call_cons ok141 (call_cons ok213 (call_cons ok142 call_nil))) Tryz.func133 (it := fun N => it133 N) (fun N => (loops_cons (lo133_2 N) loops_nil)) U133.b U133.vo

def E134 := en [(50, sp50), (49, sp49)] [(5, [1, 2, 4, 5, 6])]
def A134 : Fn [.I, .R, .R, .R, .R, .I, .R, .R, .I, .I] As := fun a b c d e f g h i j => [aV [.n a, .sh 92 b, .sh 9 c, .sh 9 d, .sh 59 e, .n f, .sh 100 g, .sh 53 h, .n i], aI j]
def k134 : Fn [.B] Res := fun a => ⟨[aB a], []⟩
def T134_5 : Fn [.I, .B, .I, .I, .R, .R, .R, .R, .I, .R, .R, .I, .S, .S, .I, .I, .I] Tb := fun a b c d e f g h i j k l m o p q r => [cI 2 a, cP 4 0, cA 8 (.b b), cP 10 1, cI 12 c, oB 1 [.n d, .sh 92 e, .sh 9 f, .sh 9 g, .sh 59 h, .n i, .sh 100 j, .sh 53 k, .n l], oB 3 [.s m, .s o, .n p, .n q, .n r]]
def L134_5 (N : Nat) {R : Type} (K : Kt R) := U134.l5 N (J T134_5 .ret K) (J T134_5 (.exit 0) K)
def it134 (N : Nat) {R : Type} : It R := (lp 5 (al T134_5 (fun K => L134_5 N K N) an) ln)
theorem lo134_5 {R : Type} (N : Nat) : LoopOk E134 (it134 N (R := R)) (loopOf Tryz.f134 5) := lq 5 T134_5 (L134_5 N) fun K g => U134.r5 N g (J T134_5 .ret K) (J T134_5 (.exit 0) K)
def sp134 := spf A134 k134 U134.c U134.v
theorem ok134 : FnOk Tryz.prog T 134 sp134 := fq (E := E134) (call_cons ok50 (call_cons ok49 call_nil)) Tryz.func134 (it := fun N => it134 N) (fun N => (loops_cons (lo134_5 N) loops_nil)) U134.b U134.vo

def E43 := en [(49, sp49), (133, sp133), (134, sp134), (50, sp50)] [(4, [1, 2, 3]), (9, [1, 2, 4])]
def A43 : Fn [.I, .R, .R, .R, .R, .I, .R, .R, .I] As := fun a b c d e f g h i => [aV [.n a, .sh 92 b, .sh 9 c, .sh 9 d, .sh 59 e, .n f, .sh 100 g, .sh 53 h, .n i]]
def k43 : Fn [.B] Res := fun a => ⟨[aB a], []⟩
def T43_4 : Fn [.B, .I, .I, .R, .R, .R, .R, .I, .R, .R, .I] Tb := fun a b c d e f g h i j k => [cP 2 0, cA 4 (.b a), cI 6 b, oB 1 [.n c, .sh 92 d, .sh 9 e, .sh 9 f, .sh 59 g, .n h, .sh 100 i, .sh 53 j, .n k]]
def T43_9 : Fn [.B, .I, .I, .R, .R, .R, .R, .I, .R, .R, .I] Tb := fun a b c d e f g h i j k => [cP 2 0, cA 4 (.b a), cI 8 b, oB 1 [.n c, .sh 92 d, .sh 9 e, .sh 9 f, .sh 59 g, .n h, .sh 100 i, .sh 53 j, .n k]]
def L43_4 (N : Nat) {R : Type} (K : Kt R) := U43.l4 N (J T43_4 .ret K) (J T43_4 (.exit 0) K)
def L43_9 (N : Nat) {R : Type} (K : Kt R) := U43.l9 N (J T43_9 .ret K) (J T43_9 (.exit 2) K)
def it43 (N : Nat) {R : Type} : It R := (lp 4 (al T43_4 (fun K => L43_4 N K N) an) (lp 9 (al T43_9 (fun K => L43_9 N K N) an) ln))
theorem lo43_4 {R : Type} (N : Nat) : LoopOk E43 (it43 N (R := R)) (loopOf Tryz.f43 4) := lq 4 T43_4 (L43_4 N) fun K g => U43.r4 N g (J T43_4 .ret K) (J T43_4 (.exit 0) K)
theorem lo43_9 {R : Type} (N : Nat) : LoopOk E43 (it43 N (R := R)) (loopOf Tryz.f43 9) := lq 9 T43_9 (L43_9 N) fun K g => U43.r9 N g (J T43_9 .ret K) (J T43_9 (.exit 2) K)
def sp43 := spf A43 k43 U43.c U43.v
theorem ok43 : FnOk Tryz.prog T 43 sp43 := fq (E := E43) (call_cons ok49 (call_cons ok133 (call_cons ok134 (call_cons ok50 call_nil)))) Tryz.func43 (it := fun N => it43 N) (fun N => (loops_cons (lo43_4 N) (loops_cons (lo43_9 N) loops_nil))) U43.b U43.vo

def E51 := en [] [(2, [1, 2, 4, 5, 6])]
def A51 : Fn [.I, .R, .R, .R, .R, .I, .R, .R, .I, .S] As := fun a b c d e f g h i j => [aV [.n a, .sh 92 b, .sh 9 c, .sh 9 d, .sh 59 e, .n f, .sh 100 g, .sh 53 h, .n i], aS j]
def k51 : Fn [.S, .I, .I, .S, .B] Res := fun a b c d e => ⟨[aV [.s a, .n b, .n c, .s d], aB e], []⟩
def T51_2 : Fn [.S, .B, .I, .I, .R, .R, .R, .R, .I, .R, .R, .I, .S, .I, .I, .S] Tb := fun a b c d e f g h i j k l m o p q => [cA 2 (.s a), cP 4 0, cP 8 1, cA 10 (.b b), cI 12 c, oB 1 [.n d, .sh 92 e, .sh 9 f, .sh 9 g, .sh 59 h, .n i, .sh 100 j, .sh 53 k, .n l], oB 3 [.s m, .n o, .n p, .s q]]
def L51_2 (N : Nat) {R : Type} (K : Kt R) := U51.l2 N (J T51_2 .ret K) (J T51_2 (.exit 0) K)
def it51 (N : Nat) {R : Type} : It R := (lp 2 (al T51_2 (fun K => L51_2 N K N) an) ln)
theorem lo51_2 {R : Type} (N : Nat) : LoopOk E51 (it51 N (R := R)) (loopOf Tryz.f51 2) := lq 2 T51_2 (L51_2 N) fun K g => U51.r2 N g (J T51_2 .ret K) (J T51_2 (.exit 0) K)
def sp51 := spf A51 k51 U51.c U51.v
theorem ok51 : FnOk Tryz.prog T 51 sp51 := fq (E := E51) call_nil Tryz.func51 (it := fun N => it51 N) (fun N => (loops_cons (lo51_2 N) loops_nil)) U51.b U51.vo

def E52 := en [(141, sp141), (49, sp49)] []
def A52 : Fn [.S, .I, .I, .S, .I] As := fun a b c d e => [aV [.s a, .n b, .n c, .s d], aI e]
def k52 : Fn [.B] Res := fun a => ⟨[aB a], []⟩
def sp52 := spf A52 k52 (ct _) U52.v
theorem ok52 : FnOk Tryz.prog T 52 sp52 := ft (E := E52) (call_cons ok141 (call_cons ok49 call_nil)) Tryz.func52 U52.b fun (a0, a1, a2, a3, a4, _) => U52.b_eq _ a0 a1 a2 a3 a4

def E250 := en [] [(2, [0, 1, 5]), (6, [0, 1, 5, 6])]
def A250 : Fn [.I, .S] As := fun a b => [.v false [.i .u32 a], aS b]
def k250 : Fn [.I] Res := fun a => ⟨[.v false [.i .u32 a]], []⟩
def T250_2 : Fn [.I, .S, .I] Tb := fun a b c => [cA 0 (.i .u32 a), cA 2 (.s b), cI 10 c]
def T250_6 : Fn [.I, .S, .I, .I] Tb := fun a b c d => [cA 0 (.i .u32 a), cA 2 (.s b), cI 10 c, cI 12 d]
def L250_2 (N : Nat) {R : Type} (K : Kt R) := U250.l2 N (J T250_2 (.exit 0) K)
def L250_6 (N : Nat) {R : Type} (K : Kt R) := U250.l6 N (J T250_6 (.exit 2) K)
def it250 (N : Nat) {R : Type} : It R := (lp 2 (al T250_2 (fun K => L250_2 N K N) an) (lp 6 (al T250_6 (fun K => L250_6 N K N) an) ln))
theorem lo250_2 {R : Type} (N : Nat) : LoopOk E250 (it250 N (R := R)) (loopOf Tryz.f250 2) := lq 2 T250_2 (L250_2 N) fun K g => U250.r2 N g (J T250_2 (.exit 0) K)
theorem lo250_6 {R : Type} (N : Nat) : LoopOk E250 (it250 N (R := R)) (loopOf Tryz.f250 6) := lq 6 T250_6 (L250_6 N) fun K g => U250.r6 N g (J T250_6 (.exit 2) K)
def sp250 := spf A250 k250 U250.c U250.v
theorem ok250 : FnOk Tryz.prog T 250 sp250 := fq (E := E250) call_nil Tryz.func250 (it := fun N => it250 N) (fun N => (loops_cons (lo250_2 N) (loops_cons (lo250_6 N) loops_nil))) U250.b U250.vo

def E215 := en [(250, sp250)] []
def A215 : Fn [.S] As := fun a => [aS a]
def k215 : Fn [.I] Res := fun a => ⟨[.v false [.i .u32 a]], []⟩
def sp215 := spf A215 k215 U215.c U215.v
theorem ok215 : FnOk Tryz.prog T 215 sp215 := fr (E := E215) (call_cons ok250 call_nil) Tryz.func215 U215.b U215.vo

def E148 := en [(215, sp215)] []
def A148 : Fn [.I, .S] As := fun a b => [aI a, aS b]
def k148 : Fn [.I] Res := fun a => ⟨[aI a], []⟩
def sp148 := spf A148 k148 U148.c U148.v
theorem ok148 : FnOk Tryz.prog T 148 sp148 := fr (E := E148) (call_cons ok215 call_nil) Tryz.func148 U148.b U148.vo

def E57 := en [(146, sp146), (147, sp147), (148, sp148)] [(5, [1, 4, 5, 6]), (14, [4, 5, 8]), (17, [4, 5, 8, 9])]
def A57 : Fn [.R, .I, .S] As := fun a b c => [aV [.sh 59 a, .n b], aS c]
def k57 : Fn [.R, .I] Res := fun a b => ⟨[aV [.ow 59 true a, .n b]], []⟩
def T57_5 : Fn [.S, .I, .I, .I, .R] Tb := fun a b c d e => [cA 2 (.s a), cP 8 0, cP 10 1, cI 12 b, oB 1 [.nl, .n c], oB 3 [.own 2, .n d], oR 5 59 e]
def T57_14 : Fn [.I, .I, .I, .R] Tb := fun a b c d => [cP 8 0, cP 10 1, cI 16 a, oB 1 [.nl, .n b], oB 3 [.own 2, .n c], oR 5 59 d]
def T57_17 : Fn [.I, .I, .I, .I, .R] Tb := fun a b c d e => [cP 8 0, cP 10 1, cI 16 a, cI 18 b, oB 1 [.nl, .n c], oB 3 [.own 2, .n d], oR 5 59 e]
def L57_5 (N : Nat) {R : Type} (K : Kt R) := U57.l5 N (J T57_5 (.exit 0) K)
def L57_14 (N : Nat) {R : Type} (K : Kt R) := U57.l14 N (J T57_14 (.exit 2) K)
def L57_17 (N : Nat) {R : Type} (K : Kt R) := U57.l17 N (J T57_17 (.exit 4) K)
def it57 (N : Nat) {R : Type} : It R := (lp 5 (al T57_5 (fun K => L57_5 N K N) an) (lp 14 (al T57_14 (fun K => L57_14 N K N) an) (lp 17 (al T57_17 (fun K => L57_17 N K N) an) ln)))
theorem lo57_5 {R : Type} (N : Nat) : LoopOk E57 (it57 N (R := R)) (loopOf Tryz.f57 5) := lq 5 T57_5 (L57_5 N) fun K g => U57.r5 N g (J T57_5 (.exit 0) K)
theorem lo57_14 {R : Type} (N : Nat) : LoopOk E57 (it57 N (R := R)) (loopOf Tryz.f57 14) := lq 14 T57_14 (L57_14 N) fun K g => U57.r14 N g (J T57_14 (.exit 2) K)
theorem lo57_17 {R : Type} (N : Nat) : LoopOk E57 (it57 N (R := R)) (loopOf Tryz.f57 17) := lq 17 T57_17 (L57_17 N) fun K g => U57.r17 N g (J T57_17 (.exit 4) K)
def sp57 := spf A57 k57 U57.c U57.v
theorem ok57 : FnOk Tryz.prog T 57 sp57 := fq (E := E57) (call_cons ok146 (call_cons ok147 (call_cons ok148 call_nil))) Tryz.func57 (it := fun N => it57 N) (fun N => (loops_cons (lo57_5 N) (loops_cons (lo57_14 N) (loops_cons (lo57_17 N) loops_nil)))) U57.b U57.vo

def E144 := en [] [(3, [0, 1, 5, 6])]
def A144 : Fn [.R, .S] As := fun a b => [aH 9 a, aS b]
def k144 : Fn [.R] Res := fun a => ⟨[aO 9 a], []⟩
def T144_3 : Fn [.R, .S, .I, .R] Tb := fun a b c d => [cH 0 9 a, cA 2 (.s b), cA 10 (.own 0), cI 12 c, oR 1 9 d]
def L144_3 (N : Nat) {R : Type} (K : Kt R) := U144.l3 N (J T144_3 (.exit 0) K)
def it144 (N : Nat) {R : Type} : It R := (lp 3 (al T144_3 (fun K => L144_3 N K N) an) ln)
theorem lo144_3 {R : Type} (N : Nat) : LoopOk E144 (it144 N (R := R)) (loopOf Tryz.f144 3) := lq 3 T144_3 (L144_3 N) fun K g => U144.r3 N g (J T144_3 (.exit 0) K)
def sp144 := spf A144 k144 U144.c U144.v
theorem ok144 : FnOk Tryz.prog T 144 sp144 := fq (E := E144) call_nil Tryz.func144 (it := fun N => it144 N) (fun N => (loops_cons (lo144_3 N) loops_nil)) U144.b U144.vo

def E145 := en [(147, sp147), (148, sp148)] [(5, [1, 2, 5, 6])]
def A145 : Fn [.R, .I, .S] As := fun a b c => [aV [.sh 59 a, .n b], aS c]
def k145 : Fn [.I] Res := fun a => ⟨[aI a], []⟩
def T145_5 : Fn [.S, .I, .I, .R, .I] Tb := fun a b c d e => [cA 2 (.s a), cP 4 0, cI 10 b, cI 12 c, oB 1 [.sh 59 d, .n e]]
def L145_5 (N : Nat) {R : Type} (K : Kt R) := U145.l5 N (J T145_5 (.exit 0) K)
def it145 (N : Nat) {R : Type} : It R := (lp 5 (al T145_5 (fun K => L145_5 N K N) an) ln)
theorem lo145_5 {R : Type} (N : Nat) : LoopOk E145 (it145 N (R := R)) (loopOf Tryz.f145 5) := lq 5 T145_5 (L145_5 N) fun K g => U145.r5 N g (J T145_5 (.exit 0) K)
def sp145 := spf A145 k145 U145.c U145.v
theorem ok145 : FnOk Tryz.prog T 145 sp145 := fq (E := E145) (call_cons ok147 (call_cons ok148 call_nil)) Tryz.func145 (it := fun N => it145 N) (fun N => (loops_cons (lo145_5 N) loops_nil)) U145.b U145.vo

def E53 := en [(140, sp140), (142, sp142), (50, sp50), (57, sp57), (143, sp143), (144, sp144), (145, sp145)] []
def A53 : Fn [.R, .R, .R, .I, .S] As := fun a b c d e => [aV [.sh 9 a, .sh 9 b, .sh 59 c, .n d], aS e]
def k53 : Fn [.R, .R, .R, .I, .S] Res := fun a b c d e => ⟨[aV [.ow 9 true a, .ow 9 true b, .ow 59 true c, .n d], aS e], []⟩
def sp53 := spf A53 k53 U53.c U53.v
theorem ok53 : FnOk Tryz.prog T 53 sp53 := fr (E := E53) (call_cons ok140 (call_cons ok142 (call_cons ok50 (call_cons ok57 (call_cons ok143 (call_cons ok144 (call_cons ok145 call_nil))))))) Tryz.func53 U53.b U53.vo

def E54 := en [] [(3, [0, 3, 5, 6]), (9, [0, 3, 5, 7])]
def A54 : Fn [.R, .I, .S, .I, .I, .I, .S, .I] As := fun a b c d e f g h => [aH 53 a, aV [.n b, .s c, .n d, .n e, .n f, .s g, .n h]]
def k54 : Fn [.R] Res := fun a => ⟨[aO 53 a], []⟩
def T54_3 : Fn [.R, .I, .I, .S, .I, .I, .I, .S, .I, .R] Tb := fun a b c d e f g h i j => [cH 0 53 a, cP 6 0, cA 10 (.own 1), cI 12 b, oB 1 [.n c, .s d, .n e, .n f, .n g, .s h, .n i], oR 3 53 j]
def T54_9 : Fn [.R, .I, .I, .S, .I, .I, .I, .S, .I, .R] Tb := fun a b c d e f g h i j => [cH 0 53 a, cP 6 0, cA 10 (.own 1), cI 14 b, oB 1 [.n c, .s d, .n e, .n f, .n g, .s h, .n i], oR 3 53 j]
def L54_3 (N : Nat) {R : Type} (K : Kt R) := U54.l3 N (J T54_3 (.exit 0) K)
def L54_9 (N : Nat) {R : Type} (K : Kt R) := U54.l9 N (J T54_9 (.exit 2) K)
def it54 (N : Nat) {R : Type} : It R := (lp 3 (al T54_3 (fun K => L54_3 N K N) an) (lp 9 (al T54_9 (fun K => L54_9 N K N) an) ln))
theorem lo54_3 {R : Type} (N : Nat) : LoopOk E54 (it54 N (R := R)) (loopOf Tryz.f54 3) := lq 3 T54_3 (L54_3 N) fun K g => U54.r3 N g (J T54_3 (.exit 0) K)
theorem lo54_9 {R : Type} (N : Nat) : LoopOk E54 (it54 N (R := R)) (loopOf Tryz.f54 9) := lq 9 T54_9 (L54_9 N) fun K g => U54.r9 N g (J T54_9 (.exit 2) K)
def sp54 := spf A54 k54 U54.c U54.v
theorem ok54 : FnOk Tryz.prog T 54 sp54 := fq (E := E54) call_nil Tryz.func54 (it := fun N => it54 N) (fun N => (loops_cons (lo54_3 N) (loops_cons (lo54_9 N) loops_nil))) U54.b U54.vo

def E55 := en [] [(3, [0, 1, 5, 6])]
def A55 : Fn [.R, .S] As := fun a b => [aH 92 a, aS b]
def k55 : Fn [.R] Res := fun a => ⟨[aO 92 a], []⟩
def T55_3 : Fn [.R, .S, .I, .R] Tb := fun a b c d => [cH 0 92 a, cA 2 (.s b), cA 10 (.own 0), cI 12 c, oR 1 92 d]
def L55_3 (N : Nat) {R : Type} (K : Kt R) := U55.l3 N (J T55_3 (.exit 0) K)
def it55 (N : Nat) {R : Type} : It R := (lp 3 (al T55_3 (fun K => L55_3 N K N) an) ln)
theorem lo55_3 {R : Type} (N : Nat) : LoopOk E55 (it55 N (R := R)) (loopOf Tryz.f55 3) := lq 3 T55_3 (L55_3 N) fun K g => U55.r3 N g (J T55_3 (.exit 0) K)
def sp55 := spf A55 k55 U55.c U55.v
theorem ok55 : FnOk Tryz.prog T 55 sp55 := fq (E := E55) call_nil Tryz.func55 (it := fun N => it55 N) (fun N => (loops_cons (lo55_3 N) loops_nil)) U55.b U55.vo

def E56 := en [(144, sp144), (146, sp146)] []
def A56 : Fn [.R, .R, .R, .I, .S] As := fun a b c d e => [aV [.sh 9 a, .sh 9 b, .sh 59 c, .n d], aS e]
def k56 : Fn [.R, .R, .R, .I] Res := fun a b c d => ⟨[aV [.ow 9 true a, .ow 9 true b, .ow 59 true c, .n d]], []⟩
def sp56 := spf A56 k56 U56.c U56.v
theorem ok56 : FnOk Tryz.prog T 56 sp56 := fr (E := E56) (call_cons ok144 (call_cons ok146 call_nil)) Tryz.func56 U56.b U56.vo

def E9 := en [(48, sp48), (43, sp43), (49, sp49), (50, sp50), (51, sp51), (52, sp52), (53, sp53), (54, sp54), (55, sp55), (56, sp56), (57, sp57)] [(5, [1, 2, 3, 6, 7, 8, 9]), (22, [2, 3, 6, 8, 10, 12, 13])]
def A9 : Fn [.I, .R, .R, .R, .R, .I, .R, .R, .I, .I, .S] As := fun a b c d e f g h i j k => [aV [.n a, .sh 92 b, .sh 9 c, .sh 9 d, .sh 59 e, .n f, .sh 100 g, .sh 53 h, .n i], aI j, aS k]
def k9 : Fn [.I, .R, .R, .R, .R, .I, .R, .R, .I, .I] Res := fun a b c d e f g h i j => ⟨[aV [.n a, .ow 92 true b, .ow 9 true c, .ow 9 true d, .ow 59 true e, .n f, .ow 100 true g, .ow 53 true h, .n i], aI j], []⟩
def T9_5 : Fn [.I, .S, .I, .I, .I, .R, .R, .R, .R, .I, .R, .R, .I, .I, .I, .I, .I, .I, .I, .R, .R, .R, .R, .R, .R] Tb := fun a b c d e f g h i j k l m o p q r s t u v w x y z => [cI 2 a, cA 4 (.s b), cP 6 0, cP 12 1, cI 14 c, cP 16 2, cI 18 d, oB 1 [.n e, .sh 92 f, .sh 9 g, .sh 9 h, .sh 59 i, .n j, .sh 100 k, .sh 53 l, .n m], oB 3 [.n o, .nl, .nl, .nl, .nl, .n p, .nl, .nl, .n q], oB 5 [.n r, .own 3, .own 4, .own 5, .own 6, .n s, .own 7, .own 8, .n t], oR 7 92 u, oR 9 9 v, oR 11 9 w, oR 13 59 x, oR 15 100 y, oR 17 53 z]
def Y9_5_0 : Fn [.I, .S, .I, .I, .I, .R, .R, .R, .R, .I, .R, .R, .I, .I, .I, .I, .I, .I, .I, .R, .R, .R, .R, .R, .R] Tb := fun a b c d e f g h i j k l m o p q r s t u v w x y z => [cI 2 a, cA 4 (.s b), cP 6 0, cP 12 1, cI 14 c, cP 16 2, cI 18 d, oB 1 [.n e, .sh 92 f, .sh 9 g, .sh 9 h, .sh 59 i, .n j, .sh 100 k, .sh 53 l, .n m], oB 3 [.n o, .own 3, .own 4, .own 5, .own 6, .n p, .own 7, .own 8, .n q], oB 5 [.n r, .own 3, .own 4, .own 5, .own 6, .n s, .own 7, .own 8, .n t], oR 7 92 u, oR 9 9 v, oR 11 9 w, oR 13 59 x, oR 15 100 y, oR 17 53 z]
def T9_22 : Fn [.S, .B, .I, .I, .R, .R, .R, .R, .I, .R, .R, .I, .I, .I, .I, .I, .I, .I, .I, .S, .I, .I, .I, .S, .I, .R, .R, .R, .R, .R, .R] Tb := fun a b c d e f g h i j k l m o p q r s t u v w x y z aa ab ac ad ae af => [cA 4 (.s a), cP 6 0, cP 12 1, cP 16 2, cP 20 3, cA 24 (.b b), cI 26 c, oB 1 [.n d, .sh 92 e, .sh 9 f, .sh 9 g, .sh 59 h, .n i, .sh 100 j, .sh 53 k, .n l], oB 3 [.n m, .nl, .nl, .nl, .nl, .n o, .nl, .nl, .n p], oB 5 [.n q, .own 4, .own 5, .own 6, .own 7, .n r, .own 8, .own 9, .n s], oB 7 [.n t, .s u, .n v, .n w, .n x, .s y, .n z], oR 9 92 aa, oR 11 9 ab, oR 13 9 ac, oR 15 59 ad, oR 17 100 ae, oR 19 53 af]
def L9_5 (N : Nat) {R : Type} (K : Kt R) := U9.l5 N (J Y9_5_0 .ret K) (J T9_5 (.exit 0) K)
def L9_22 (N : Nat) {R : Type} (K : Kt R) := U9.l22 N (J T9_22 (.exit 2) K)
def it9 (N : Nat) {R : Type} : It R := (lp 5 (al T9_5 (fun K => L9_5 N K N) an) (lp 22 (al T9_22 (fun K => L9_22 N K N) an) ln))
theorem lo9_5 {R : Type} (N : Nat) : LoopOk E9 (it9 N (R := R)) (loopOf Tryz.f9 5) := lq 5 T9_5 (L9_5 N) fun K g => U9.r5 N g (J Y9_5_0 .ret K) (J T9_5 (.exit 0) K)
theorem lo9_22 {R : Type} (N : Nat) : LoopOk E9 (it9 N (R := R)) (loopOf Tryz.f9 22) := lq 22 T9_22 (L9_22 N) fun K g => U9.r22 N g (J T9_22 (.exit 2) K)
def sp9 := spf A9 k9 U9.c U9.v
theorem ok9 : FnOk Tryz.prog T 9 sp9 := fq (E := E9) (call_cons ok48 (call_cons ok43 (call_cons ok49 (call_cons ok50 (call_cons ok51 (call_cons ok52 (call_cons ok53 (call_cons ok54 (call_cons ok55 (call_cons ok56 (call_cons ok57 call_nil))))))))))) Tryz.func9 (it := fun N => it9 N) (fun N => (loops_cons (lo9_5 N) (loops_cons (lo9_22 N) loops_nil))) U9.b U9.vo

def E154 := en [] []
def A154 : Fn [.R] As := fun a => [aH 92 a]
def k154 : Fn [.R] Res := fun a => ⟨[aO 92 a], []⟩
def sp154 := spf A154 k154 U154.c U154.v
theorem ok154 : FnOk Tryz.prog T 154 sp154 := fr (E := E154) call_nil Tryz.func154 U154.b U154.vo

def E217 := en [] []
def A217 : Fn [.R] As := fun a => [aH 9 a]
def k217 : Fn [.R] Res := fun a => ⟨[aO 9 a], []⟩
def sp217 := spf A217 k217 U217.c U217.v
theorem ok217 : FnOk Tryz.prog T 217 sp217 := fr (E := E217) call_nil Tryz.func217 U217.b U217.vo

def E223 := en [] []
def A223 : Fn [.R] As := fun a => [aH 3 a]
def k223 : Fn [.R] Res := fun a => ⟨[aO 3 a], []⟩
def sp223 := spf A223 k223 U223.c U223.v
theorem ok223 : FnOk Tryz.prog T 223 sp223 := fr (E := E223) call_nil Tryz.func223 U223.b U223.vo

def E168 := en [(223, sp223)] [(3, [2, 3, 10, 11, 12])]
def A168 : Fn [.R, .I] As := fun a b => [aV [.sh 59 a, .n b]]
def k168 : Fn [.R, .I] Res := fun a b => ⟨[aV [.ow 59 true a, .n b]], []⟩
def T168_3 : Fn [.R, .I, .I, .I, .I] Tb := fun a b c d e => [cP 4 0, cP 6 1, cH 20 59 a, cI 22 b, cI 24 c, oB 1 [.nl, .n d], oB 3 [.nl, .n e]]
def T168_3a : Fn [.R, .I, .I, .I, .I, .R] Tb := fun a b c d e f => [cP 4 0, cP 6 1, cH 20 59 a, cI 22 b, cI 24 c, oB 1 [.nl, .n d], oB 3 [.own 2, .n e], oR 5 59 f]
def L168_3 (N : Nat) {R : Type} (K : Kt R) := U168.l3 N (J T168_3 (.exit 0) K) (J T168_3a (.exit 0) K)
def L168_3a (N : Nat) {R : Type} (K : Kt R) := U168.l3a N (J T168_3 (.exit 0) K) (J T168_3a (.exit 0) K)
def it168 (N : Nat) {R : Type} : It R := (lp 3 (al T168_3 (fun K => L168_3 N K N) (al T168_3a (fun K => L168_3a N K N) an)) ln)
theorem w168_3a {R : Type} (N : Nat) (K : Kt R) : Wd E168 (it168 N) (loopOf Tryz.f168 3) 3 K T168_3a (L168_3a N K) := lw (fun g => U168.r3a N (cmp _ T168_3 (g ∘ tabl)) (cmp _ T168_3a (g ∘ tabl)) (J T168_3 (.exit 0) K) (J T168_3a (.exit 0) K)) fun m i => by simp only [Function.comp_def, wf i]; rfl
theorem w168_3 {R : Type} (N : Nat) (K : Kt R) : Wd E168 (it168 N) (loopOf Tryz.f168 3) 3 K T168_3 (L168_3 N K) := lw (fun g => U168.r3 N (cmp _ T168_3 (g ∘ tabl)) (cmp _ T168_3a (g ∘ tabl)) (J T168_3 (.exit 0) K) (J T168_3a (.exit 0) K)) fun m i => by simp only [Function.comp_def, wf i, wf (w168_3a N K m)]; rfl
theorem lo168_3 {R : Type} (N : Nat) : LoopOk E168 (it168 N (R := R)) (loopOf Tryz.f168 3) := lm 3 (ga T168_3 (w168_3 N) (ga T168_3a (w168_3a N) good_an))
def sp168 := spf A168 k168 U168.c U168.v
theorem ok168 : FnOk Tryz.prog T 168 sp168 := fq (E := E168) (call_cons ok223 call_nil) Tryz.func168 (it := fun N => it168 N) (fun N => (loops_cons (lo168_3 N) loops_nil)) U168.b U168.vo

def E155 := en [(217, sp217), (168, sp168)] []
def A155 : Fn [.R, .R, .R, .I] As := fun a b c d => [aV [.sh 9 a, .sh 9 b, .sh 59 c, .n d]]
def k155 : Fn [.R, .R, .R, .I] Res := fun a b c d => ⟨[aV [.ow 9 true a, .ow 9 true b, .ow 59 true c, .n d]], []⟩
def sp155 := spf A155 k155 U155.c U155.v
theorem ok155 : FnOk Tryz.prog T 155 sp155 := fr (E := E155) (call_cons ok217 (call_cons ok168 call_nil)) Tryz.func155 U155.b U155.vo

def E62 := en [(154, sp154), (155, sp155)] []
def A62 : Fn [.I, .R, .R, .R, .R, .I, .R, .R, .I] As := fun a b c d e f g h i => [aV [.n a, .sh 92 b, .sh 9 c, .sh 9 d, .sh 59 e, .n f, .sh 100 g, .sh 53 h, .n i]]
def k62 : Fn [.I, .R, .R, .R, .R, .I, .R, .R, .I] Res := fun a b c d e f g h i => ⟨[aV [.n a, .ow 92 true b, .ow 9 true c, .ow 9 true d, .ow 59 true e, .n f, .ow 100 true g, .ow 53 true h, .n i]], []⟩
def sp62 := spf A62 k62 U62.c U62.v
theorem ok62 : FnOk Tryz.prog T 62 sp62 := fr (E := E62) (call_cons ok154 (call_cons ok155 call_nil)) Tryz.func62 U62.b U62.vo

def E63 := en [] []
def A63 : Fn [.I, .I, .I] As := fun a b c => [aI a, aI b, aI c]
def k63 : Fn [.B] Res := fun a => ⟨[aB a], []⟩
def sp63 := spf A63 k63 (ct _) U63.v
theorem ok63 : FnOk Tryz.prog T 63 sp63 := ft (E := E63) call_nil Tryz.func63 U63.b fun (a0, a1, a2, _) => U63.b_eq _ a0 a1 a2

def E64 := en [(63, sp63)] []
def A64 : Fn [.S] As := fun a => [aS a]
def k64 : Fn [.B] Res := fun a => ⟨[aB a], []⟩
def sp64 := spf A64 k64 (ct _) U64.v
theorem ok64 : FnOk Tryz.prog T 64 sp64 := ft (E := E64) (call_cons ok63 call_nil) Tryz.func64 U64.b fun (a0, _) => U64.b_eq _ a0

def E100 := en [(63, sp63)] []
def A100 : Fn [.I] As := fun a => [aI a]
def k100 : Fn [.B] Res := fun a => ⟨[aB a], []⟩
def sp100 := spf A100 k100 (ct _) U100.v
theorem ok100 : FnOk Tryz.prog T 100 sp100 := ft (E := E100) (call_cons ok63 call_nil) Tryz.func100 U100.b fun (a0, _) => U100.b_eq _ a0

def E158 := en [(64, sp64), (100, sp100), (63, sp63)] []
def A158 : Fn [.S, .I, .I, .S] As := fun a b c d => [aV [.s a, .n b, .n c, .s d]]
def k158 : Fn [.B] Res := fun a => ⟨[aB a], []⟩
def sp158 := spf A158 k158 (ct _) U158.v
theorem ok158 : FnOk Tryz.prog T 158 sp158 := ft (E := E158) (call_cons ok64 (call_cons ok100 (call_cons ok63 call_nil))) Tryz.func158 U158.b fun (a0, a1, a2, a3, _) => U158.b_eq _ a0 a1 a2 a3

def E261 := en [] []
def A261 : Fn [.I] As := fun a => [.v false [.nl], aI a]
def k261 : Fn [.R] Res := fun a => ⟨[aO 9 a], []⟩
def sp261 := spf A261 k261 U261.c U261.v
theorem ok261 : FnOk Tryz.prog T 261 sp261 := fr (E := E261) call_nil Tryz.func261 U261.b U261.vo

def E233 := en [(261, sp261)] [(3, [0, 3, 9, 10, 11]), (11, [6, 25, 26, 27])]
def A233 : Fn [.R] As := fun a => [aH 23 a]
def k233 : Fn [.R] Res := fun a => ⟨[aO 9 a], []⟩
def T233_3 : Fn [.R, .I, .R, .I, .I] Tb := fun a b c d e => [cH 0 23 a, cI 6 b, cH 18 23 c, cI 20 d, cI 22 e]
def T233_11 : Fn [.R, .I, .I, .R] Tb := fun a b c d => [cA 12 (.own 0), cH 50 23 a, cI 52 b, cI 54 c, oR 1 9 d]
def L233_3 (N : Nat) {R : Type} (K : Kt R) := U233.l3 N (J T233_3 (.exit 0) K)
def L233_11 (N : Nat) {R : Type} (K : Kt R) := U233.l11 N (J T233_11 (.exit 2) K)
def it233 (N : Nat) {R : Type} : It R := (lp 3 (al T233_3 (fun K => L233_3 N K N) an) (lp 11 (al T233_11 (fun K => L233_11 N K N) an) ln))
theorem lo233_3 {R : Type} (N : Nat) : LoopOk E233 (it233 N (R := R)) (loopOf Tryz.f233 3) := lq 3 T233_3 (L233_3 N) fun K g => U233.r3 N g (J T233_3 (.exit 0) K)
theorem lo233_11 {R : Type} (N : Nat) : LoopOk E233 (it233 N (R := R)) (loopOf Tryz.f233 11) := lq 11 T233_11 (L233_11 N) fun K g => U233.r11 N g (J T233_11 (.exit 2) K)
def sp233 := spf A233 k233 U233.c U233.v
theorem ok233 : FnOk Tryz.prog T 233 sp233 := fq (E := E233) (call_cons ok261 call_nil) Tryz.func233 (it := fun N => it233 N) (fun N => (loops_cons (lo233_3 N) (loops_cons (lo233_11 N) loops_nil))) U233.b U233.vo

def E188 := en [(233, sp233)] []
def A188 : Fn [.R, .R, .R, .I] As := fun a b c d => [aV [.sh 9 a, .sh 9 b, .sh 59 c, .n d]]
def k188 : Fn [.R] Res := fun a => ⟨[aO 9 a], []⟩
def sp188 := spf A188 k188 U188.c U188.v
theorem ok188 : FnOk Tryz.prog T 188 sp188 := fr (E := E188) (call_cons ok233 call_nil) Tryz.func188 U188.b U188.vo

def E218 := en [] [(2, [0, 1, 4, 7, 8])]
def A218 : Fn [.R, .S] As := fun a b => [aH 9 a, aS b]
def k218 : Fn [.I] Res := fun a => ⟨[aI a], []⟩
def T218_2 : Fn [.R, .S, .I, .I, .I] Tb := fun a b c d e => [cH 0 9 a, cA 2 (.s b), cI 8 c, cI 14 d, cI 16 e]
def L218_2 (N : Nat) {R : Type} (K : Kt R) := U218.l2 N (J T218_2 .ret K) (J T218_2 (.exit 0) K)
def it218 (N : Nat) {R : Type} : It R := (lp 2 (al T218_2 (fun K => L218_2 N K N) an) ln)
theorem lo218_2 {R : Type} (N : Nat) : LoopOk E218 (it218 N (R := R)) (loopOf Tryz.f218 2) := lq 2 T218_2 (L218_2 N) fun K g => U218.r2 N g (J T218_2 .ret K) (J T218_2 (.exit 0) K)
def sp218 := spf A218 k218 U218.c U218.v
theorem ok218 : FnOk Tryz.prog T 218 sp218 := fq (E := E218) call_nil Tryz.func218 (it := fun N => it218 N) (fun N => (loops_cons (lo218_2 N) loops_nil)) U218.b U218.vo

def E160 := en [(218, sp218)] []
def A160 : Fn [.R, .S] As := fun a b => [aH 9 a, aS b]
def k160 : Fn [.B] Res := fun a => ⟨[aB a], []⟩
def sp160 := spf A160 k160 U160.c U160.v
theorem ok160 : FnOk Tryz.prog T 160 sp160 := fr (E := E160) (call_cons ok218 call_nil) Tryz.func160 U160.b U160.vo

def E187 := en [(188, sp188), (160, sp160)] []
def A187 : Fn [.R, .R, .R, .I, .S] As := fun a b c d e => [aV [.sh 9 a, .sh 9 b, .sh 59 c, .n d], aS e]
def k187 : Fn [.B] Res := fun a => ⟨[aB a], []⟩
def sp187 := spf A187 k187 U187.c U187.v
theorem ok187 : FnOk Tryz.prog T 187 sp187 := fr (E := E187) (call_cons ok188 (call_cons ok160 call_nil)) Tryz.func187 U187.b U187.vo

def E169 := en [(63, sp63)] [(2, [1, 2, 8, 9, 10]), (5, [1, 2, 4, 8, 9, 10, 14, 15, 16])]
def A169 : Fn [.R, .I] As := fun a b => [aV [.sh 59 a, .n b]]
def k169 : Fn [.B] Res := fun a => ⟨[aB a], []⟩
def T169_2 : Fn [.B, .R, .I, .I, .R, .I] Tb := fun a b c d e f => [cP 2 0, cA 4 (.b a), cH 16 59 b, cI 18 c, cI 20 d, oB 1 [.sh 59 e, .n f]]
def T169_5 : Fn [.B, .R, .R, .I, .I, .R, .I, .I, .R, .I] Tb := fun a b c d e f g h i j => [cP 2 0, cA 4 (.b a), cH 8 3 b, cH 16 59 c, cI 18 d, cI 20 e, cH 28 3 f, cI 30 g, cI 32 h, oB 1 [.sh 59 i, .n j]]
def L169_2 (N : Nat) {R : Type} (K : Kt R) := U169.l2 N (J T169_2 .ret K) (J T169_2 (.exit 0) K)
def L169_5 (N : Nat) {R : Type} (K : Kt R) := U169.l5 N (J T169_5 .ret K) (J T169_5 (.exit 2) K)
def it169 (N : Nat) {R : Type} : It R := (lp 2 (al T169_2 (fun K => L169_2 N K N) an) (lp 5 (al T169_5 (fun K => L169_5 N K N) an) ln))
theorem lo169_2 {R : Type} (N : Nat) : LoopOk E169 (it169 N (R := R)) (loopOf Tryz.f169 2) := lq 2 T169_2 (L169_2 N) fun K g => U169.r2 N g (J T169_2 .ret K) (J T169_2 (.exit 0) K)
theorem lo169_5 {R : Type} (N : Nat) : LoopOk E169 (it169 N (R := R)) (loopOf Tryz.f169 5) := lq 5 T169_5 (L169_5 N) fun K g => U169.r5 N g (J T169_5 .ret K) (J T169_5 (.exit 2) K)
def sp169 := spf A169 k169 U169.c U169.v
theorem ok169 : FnOk Tryz.prog T 169 sp169 := fq (E := E169) (call_cons ok63 call_nil) Tryz.func169 (it := fun N => it169 N) (fun N => (loops_cons (lo169_2 N) (loops_cons (lo169_5 N) loops_nil))) U169.b U169.vo

def E159 := en [(188, sp188), (64, sp64), (160, sp160), (169, sp169)] [(3, [1, 2, 3, 8, 9, 10])]
def A159 : Fn [.R, .R, .R, .I] As := fun a b c d => [aV [.sh 9 a, .sh 9 b, .sh 59 c, .n d]]
def k159 : Fn [.B] Res := fun a => ⟨[aB a], []⟩
def T159_3 : Fn [.B, .I, .I, .R, .R, .R, .I, .R] Tb := fun a b c d e f g h => [cP 2 0, cA 4 (.b a), cA 6 (.own 1), cA 16 (.own 1), cI 18 b, cI 20 c, oB 1 [.sh 9 d, .sh 9 e, .sh 59 f, .n g], oR 3 9 h]
def L159_3 (N : Nat) {R : Type} (K : Kt R) := U159.l3 N (J T159_3 .ret K) (J T159_3 (.exit 0) K)
def it159 (N : Nat) {R : Type} : It R := (lp 3 (al T159_3 (fun K => L159_3 N K N) an) ln)
theorem lo159_3 {R : Type} (N : Nat) : LoopOk E159 (it159 N (R := R)) (loopOf Tryz.f159 3) := lq 3 T159_3 (L159_3 N) fun K g => U159.r3 N g (J T159_3 .ret K) (J T159_3 (.exit 0) K)
def sp159 := spf A159 k159 U159.c U159.v
theorem ok159 : FnOk Tryz.prog T 159 sp159 := fq (E := E159) (call_cons ok188 (call_cons ok64 (call_cons ok160 (call_cons ok169 call_nil)))) Tryz.func159 (it := fun N => it159 N) (fun N => (loops_cons (lo159_3 N) loops_nil)) U159.b U159.vo

def E97 := en [(158, sp158), (187, sp187), (159, sp159), (188, sp188)] [(2, [1, 2, 6, 7, 8])]
def A97 : Fn [.I, .R, .R, .R, .R, .I, .R, .R, .I] As := fun a b c d e f g h i => [aV [.n a, .sh 92 b, .sh 9 c, .sh 9 d, .sh 59 e, .n f, .sh 100 g, .sh 53 h, .n i]]
def k97 : Fn [.B] Res := fun a => ⟨[aB a], []⟩
def T97_2 : Fn [.B, .R, .I, .I, .I, .R, .R, .R, .R, .I, .R, .R, .I] Tb := fun a b c d e f g h i j k l m => [cP 2 0, cA 4 (.b a), cH 12 92 b, cI 14 c, cI 16 d, oB 1 [.n e, .sh 92 f, .sh 9 g, .sh 9 h, .sh 59 i, .n j, .sh 100 k, .sh 53 l, .n m]]
def L97_2 (N : Nat) {R : Type} (K : Kt R) := U97.l2 N (J T97_2 .ret K) (J T97_2 (.exit 0) K)
def it97 (N : Nat) {R : Type} : It R := (lp 2 (al T97_2 (fun K => L97_2 N K N) an) ln)
theorem lo97_2 {R : Type} (N : Nat) : LoopOk E97 (it97 N (R := R)) (loopOf Tryz.f97 2) := lq 2 T97_2 (L97_2 N) fun K g => U97.r2 N g (J T97_2 .ret K) (J T97_2 (.exit 0) K)
def sp97 := spf A97 k97 U97.c U97.v
theorem ok97 : FnOk Tryz.prog T 97 sp97 := fq (E := E97) (call_cons ok158 (call_cons ok187 (call_cons ok159 (call_cons ok188 call_nil)))) Tryz.func97 (it := fun N => it97 N) (fun N => (loops_cons (lo97_2 N) loops_nil)) U97.b U97.vo

def E165 := en [] []
def A165 : Fn [.S, .S, .I, .I, .I, .S] As := fun a b c d e f => [aV [.s a, .s b, .n c, .n d, .n e], .fb [.s f]]
def k165 : Fn [.B] Res := fun a => ⟨[aB a], []⟩
def sp165 := spf A165 k165 (ct _) U165.v
theorem ok165 : FnOk Tryz.prog T 165 sp165 := ft (E := E165) call_nil Tryz.func165 U165.b fun (a0, a1, a2, a3, a4, a5, _) => U165.b_eq _ a0 a1 a2 a3 a4 a5

def E164 := en [(165, sp165)] [(2, [0, 1, 4, 7, 8])]
def A164 : Fn [.R, .S] As := fun a b => [aH 100 a, .v false [.fn 165 [[.s b]]]]
def k164 : Fn [.I] Res := fun a => ⟨[aI a], []⟩
def T164_2 : Fn [.R, .S, .I, .I, .I] Tb := fun a b c d e => [cH 0 100 a, cA 2 (.fn 165 [[.s b]]), cI 8 c, cI 14 d, cI 16 e]
def L164_2 (N : Nat) {R : Type} (K : Kt R) := U164.l2 N (J T164_2 .ret K) (J T164_2 (.exit 0) K)
def it164 (N : Nat) {R : Type} : It R := (lp 2 (al T164_2 (fun K => L164_2 N K N) an) ln)
theorem lo164_2 {R : Type} (N : Nat) : LoopOk E164 (it164 N (R := R)) (loopOf Tryz.f164 2) := lq 2 T164_2 (L164_2 N) fun K g => U164.r2 N g (J T164_2 .ret K) (J T164_2 (.exit 0) K)
def sp164 := spf A164 k164 U164.c U164.v
theorem ok164 : FnOk Tryz.prog T 164 sp164 := fq (E := E164) (call_cons ok165 call_nil) Tryz.func164 (it := fun N => it164 N) (fun N => (loops_cons (lo164_2 N) loops_nil)) U164.b U164.vo

def E71 := en [(164, sp164)] []
def A71 : Fn [.I, .R, .R, .R, .R, .I, .R, .R, .I, .S] As := fun a b c d e f g h i j => [aV [.n a, .sh 92 b, .sh 9 c, .sh 9 d, .sh 59 e, .n f, .sh 100 g, .sh 53 h, .n i], aS j]
def k71 : Fn [.I] Res := fun a => ⟨[aI a], []⟩
def sp71 := spf A71 k71 U71.c U71.v
theorem ok71 : FnOk Tryz.prog T 71 sp71 := fr (E := E71) (call_cons ok164 call_nil) Tryz.func71 U71.b U71.vo

def E120 := en [(71, sp71)] [(2, [1, 2, 6, 7, 8])]
def A120 : Fn [.I, .R, .R, .R, .R, .I, .R, .R, .I] As := fun a b c d e f g h i => [aV [.n a, .sh 92 b, .sh 9 c, .sh 9 d, .sh 59 e, .n f, .sh 100 g, .sh 53 h, .n i]]
def k120 : Fn [.B] Res := fun a => ⟨[aB a], []⟩
def T120_2 : Fn [.B, .R, .I, .I, .I, .R, .R, .R, .R, .I, .R, .R, .I] Tb := fun a b c d e f g h i j k l m => [cP 2 0, cA 4 (.b a), cH 12 100 b, cI 14 c, cI 16 d, oB 1 [.n e, .sh 92 f, .sh 9 g, .sh 9 h, .sh 59 i, .n j, .sh 100 k, .sh 53 l, .n m]]
def L120_2 (N : Nat) {R : Type} (K : Kt R) := U120.l2 N (J T120_2 .ret K) (J T120_2 (.exit 0) K)
def it120 (N : Nat) {R : Type} : It R := (lp 2 (al T120_2 (fun K => L120_2 N K N) an) ln)
theorem lo120_2 {R : Type} (N : Nat) : LoopOk E120 (it120 N (R := R)) (loopOf Tryz.f120 2) := lq 2 T120_2 (L120_2 N) fun K g => U120.r2 N g (J T120_2 .ret K) (J T120_2 (.exit 0) K)
def sp120 := spf A120 k120 U120.c U120.v
theorem ok120 : FnOk Tryz.prog T 120 sp120 := fq (E := E120) (call_cons ok71 call_nil) Tryz.func120 (it := fun N => it120 N) (fun N => (loops_cons (lo120_2 N) loops_nil)) U120.b U120.vo

def E98 := en [(64, sp64), (63, sp63), (120, sp120)] [(2, [1, 2, 6, 7, 8])]
def A98 : Fn [.I, .R, .R, .R, .R, .I, .R, .R, .I] As := fun a b c d e f g h i => [aV [.n a, .sh 92 b, .sh 9 c, .sh 9 d, .sh 59 e, .n f, .sh 100 g, .sh 53 h, .n i]]
def k98 : Fn [.B] Res := fun a => ⟨[aB a], []⟩
def T98_2 : Fn [.B, .R, .I, .I, .I, .R, .R, .R, .R, .I, .R, .R, .I] Tb := fun a b c d e f g h i j k l m => [cP 2 0, cA 4 (.b a), cH 12 100 b, cI 14 c, cI 16 d, oB 1 [.n e, .sh 92 f, .sh 9 g, .sh 9 h, .sh 59 i, .n j, .sh 100 k, .sh 53 l, .n m]]
def L98_2 (N : Nat) {R : Type} (K : Kt R) := U98.l2 N (J T98_2 .ret K) (J T98_2 (.exit 0) K)
def it98 (N : Nat) {R : Type} : It R := (lp 2 (al T98_2 (fun K => L98_2 N K N) an) ln)
theorem lo98_2 {R : Type} (N : Nat) : LoopOk E98 (it98 N (R := R)) (loopOf Tryz.f98 2) := lq 2 T98_2 (L98_2 N) fun K g => U98.r2 N g (J T98_2 .ret K) (J T98_2 (.exit 0) K)
def sp98 := spf A98 k98 U98.c U98.v
theorem ok98 : FnOk Tryz.prog T 98 sp98 := fq (E := E98) (call_cons ok64 (call_cons ok63 (call_cons ok120 call_nil))) Tryz.func98 (it := fun N => it98 N) (fun N => (loops_cons (lo98_2 N) loops_nil)) U98.b U98.vo

def E99 := en [(63, sp63), (64, sp64)] [(2, [1, 2, 6, 7, 8])]
def A99 : Fn [.I, .R, .R, .R, .R, .I, .R, .R, .I] As := fun a b c d e f g h i => [aV [.n a, .sh 92 b, .sh 9 c, .sh 9 d, .sh 59 e, .n f, .sh 100 g, .sh 53 h, .n i]]
def k99 : Fn [.B] Res := fun a => ⟨[aB a], []⟩
def T99_2 : Fn [.B, .R, .I, .I, .I, .R, .R, .R, .R, .I, .R, .R, .I] Tb := fun a b c d e f g h i j k l m => [cP 2 0, cA 4 (.b a), cH 12 53 b, cI 14 c, cI 16 d, oB 1 [.n e, .sh 92 f, .sh 9 g, .sh 9 h, .sh 59 i, .n j, .sh 100 k, .sh 53 l, .n m]]
def L99_2 (N : Nat) {R : Type} (K : Kt R) := U99.l2 N (J T99_2 .ret K) (J T99_2 (.exit 0) K)
def it99 (N : Nat) {R : Type} : It R := (lp 2 (al T99_2 (fun K => L99_2 N K N) an) ln)
theorem lo99_2 {R : Type} (N : Nat) : LoopOk E99 (it99 N (R := R)) (loopOf Tryz.f99 2) := lq 2 T99_2 (L99_2 N) fun K g => U99.r2 N g (J T99_2 .ret K) (J T99_2 (.exit 0) K)
def sp99 := spf A99 k99 U99.c U99.v
theorem ok99 : FnOk Tryz.prog T 99 sp99 := fq (E := E99) (call_cons ok63 (call_cons ok64 call_nil)) Tryz.func99 (it := fun N => it99 N) (fun N => (loops_cons (lo99_2 N) loops_nil)) U99.b U99.vo

def E25 := en [(63, sp63), (97, sp97), (98, sp98), (99, sp99), (100, sp100)] []
def A25 : Fn [.I, .R, .R, .R, .R, .I, .R, .R, .I] As := fun a b c d e f g h i => [aV [.n a, .sh 92 b, .sh 9 c, .sh 9 d, .sh 59 e, .n f, .sh 100 g, .sh 53 h, .n i]]
def k25 : Fn [.B] Res := fun a => ⟨[aB a], []⟩
def sp25 := spf A25 k25 U25.c U25.v
theorem ok25 : FnOk Tryz.prog T 25 sp25 := fr (E := E25) (call_cons ok63 (call_cons ok97 (call_cons ok98 (call_cons ok99 (call_cons ok100 call_nil))))) Tryz.func25 U25.b U25.vo

def E157 := en [] []
def A157 : Fn [.I, .S, .I, .I, .I, .S, .I, .I] As := fun a b c d e f g h => [aV [.n a, .s b, .n c, .n d, .n e, .s f, .n g], .fb [.n h]]
def k157 : Fn [.B] Res := fun a => ⟨[aB a], []⟩
def sp157 := spf A157 k157 (ct _) U157.v
theorem ok157 : FnOk Tryz.prog T 157 sp157 := ft (E := E157) call_nil Tryz.func157 U157.b fun (a0, a1, a2, a3, a4, a5, a6, a7, _) => U157.b_eq _ a0 a1 a2 a3 a4 a5 a6 a7

def E156a := en [(157, sp157)] [(2, [0, 1, 4, 7, 8])]
def A156a : Fn [.R, .I] As := fun a b => [aH 53 a, .v false [.fn 157 [[.n b]]]]
def k156a : Fn [.I] Res := fun a => ⟨[aI a], []⟩
def T156a_2 : Fn [.R, .I, .I, .I, .I] Tb := fun a b c d e => [cH 0 53 a, cA 2 (.fn 157 [[.n b]]), cI 8 c, cI 14 d, cI 16 e]
def L156a_2 (N : Nat) {R : Type} (K : Kt R) := U156a.l2 N (J T156a_2 .ret K) (J T156a_2 (.exit 0) K)
def it156a (N : Nat) {R : Type} : It R := (lp 2 (al T156a_2 (fun K => L156a_2 N K N) an) ln)
theorem lo156a_2 {R : Type} (N : Nat) : LoopOk E156a (it156a N (R := R)) (loopOf Tryz.f156 2) := lq 2 T156a_2 (L156a_2 N) fun K g => U156a.r2 N g (J T156a_2 .ret K) (J T156a_2 (.exit 0) K)
def sp156a := spf A156a k156a U156a.c U156a.v
theorem ok156a : FnOk Tryz.prog T 156 sp156a := fq (E := E156a) (call_cons ok157 call_nil) Tryz.func156 (it := fun N => it156a N) (fun N => (loops_cons (lo156a_2 N) loops_nil)) U156a.b U156a.vo

def E93 := en [] []
def A93 : Fn [.I, .S, .I, .I, .I, .S, .I, .I] As := fun a b c d e f g h => [aV [.n a, .s b, .n c, .n d, .n e, .s f, .n g], .fb [.n h]]
def k93 : Fn [.B] Res := fun a => ⟨[aB a], []⟩
def sp93 := spf A93 k93 (ct _) U93.v
theorem ok93 : FnOk Tryz.prog T 93 sp93 := ft (E := E93) call_nil Tryz.func93 U93.b fun (a0, a1, a2, a3, a4, a5, a6, a7, _) => U93.b_eq _ a0 a1 a2 a3 a4 a5 a6 a7

def E156b := en [(93, sp93)] [(2, [0, 1, 4, 7, 8])]
def A156b : Fn [.R, .I] As := fun a b => [aH 53 a, .v false [.fn 93 [[.n b]]]]
def k156b : Fn [.I] Res := fun a => ⟨[aI a], []⟩
def T156b_2 : Fn [.R, .I, .I, .I, .I] Tb := fun a b c d e => [cH 0 53 a, cA 2 (.fn 93 [[.n b]]), cI 8 c, cI 14 d, cI 16 e]
def L156b_2 (N : Nat) {R : Type} (K : Kt R) := U156b.l2 N (J T156b_2 .ret K) (J T156b_2 (.exit 0) K)
def it156b (N : Nat) {R : Type} : It R := (lp 2 (al T156b_2 (fun K => L156b_2 N K N) an) ln)
theorem lo156b_2 {R : Type} (N : Nat) : LoopOk E156b (it156b N (R := R)) (loopOf Tryz.f156 2) := lq 2 T156b_2 (L156b_2 N) fun K g => U156b.r2 N g (J T156b_2 .ret K) (J T156b_2 (.exit 0) K)
def sp156b := spf A156b k156b U156b.c U156b.v
theorem ok156b : FnOk Tryz.prog T 156 sp156b := fq (E := E156b) (call_cons ok93 call_nil) Tryz.func156 (it := fun N => it156b N) (fun N => (loops_cons (lo156b_2 N) loops_nil)) U156b.b U156b.vo

def E65 := en [(156, sp156a), (156, sp156b)] []
def A65 : Fn [.I, .R, .R, .R, .R, .I, .R, .R, .I, .I] As := fun a b c d e f g h i j => [aV [.n a, .sh 92 b, .sh 9 c, .sh 9 d, .sh 59 e, .n f, .sh 100 g, .sh 53 h, .n i], aI j]
def k65 : Fn [.I] Res := fun a => ⟨[aI a], []⟩
def sp65 := spf A65 k65 U65.c U65.v
theorem ok65 : FnOk Tryz.prog T 65 sp65 := fr (E := E65) (call_cons ok156a (call_cons ok156b call_nil)) Tryz.func65 U65.b U65.vo

def E67 := en [] []
def A67 : Fn [.S, .I, .I, .S, .S] As := fun a b c d e => [aV [.s a, .n b, .n c, .s d], .fb [.s e]]
def k67 : Fn [.B] Res := fun a => ⟨[aB a], []⟩
def sp67 := spf A67 k67 (ct _) U67.v
theorem ok67 : FnOk Tryz.prog T 67 sp67 := ft (E := E67) call_nil Tryz.func67 U67.b fun (a0, a1, a2, a3, a4, _) => U67.b_eq _ a0 a1 a2 a3 a4

def E66a := en [(67, sp67)] [(2, [0, 1, 4, 7, 8])]
def A66a : Fn [.R, .S] As := fun a b => [aH 92 a, .v false [.fn 67 [[.s b]]]]
def k66a : Fn [.I] Res := fun a => ⟨[aI a], []⟩
def T66a_2 : Fn [.R, .S, .I, .I, .I] Tb := fun a b c d e => [cH 0 92 a, cA 2 (.fn 67 [[.s b]]), cI 8 c, cI 14 d, cI 16 e]
def L66a_2 (N : Nat) {R : Type} (K : Kt R) := U66a.l2 N (J T66a_2 .ret K) (J T66a_2 (.exit 0) K)
def it66a (N : Nat) {R : Type} : It R := (lp 2 (al T66a_2 (fun K => L66a_2 N K N) an) ln)
theorem lo66a_2 {R : Type} (N : Nat) : LoopOk E66a (it66a N (R := R)) (loopOf Tryz.f66 2) := lq 2 T66a_2 (L66a_2 N) fun K g => U66a.r2 N g (J T66a_2 .ret K) (J T66a_2 (.exit 0) K)
def sp66a := spf A66a k66a U66a.c U66a.v
theorem ok66a : FnOk Tryz.prog T 66 sp66a := fq (E := E66a) (call_cons ok67 call_nil) Tryz.func66 (it := fun N => it66a N) (fun N => (loops_cons (lo66a_2 N) loops_nil)) U66a.b U66a.vo

def E167 := en [] []
def A167 : Fn [.S, .I, .I, .S, .S] As := fun a b c d e => [aV [.s a, .n b, .n c, .s d], .fb [.s e]]
def k167 : Fn [.B] Res := fun a => ⟨[aB a], []⟩
def sp167 := spf A167 k167 (ct _) U167.v
theorem ok167 : FnOk Tryz.prog T 167 sp167 := ft (E := E167) call_nil Tryz.func167 U167.b fun (a0, a1, a2, a3, a4, _) => U167.b_eq _ a0 a1 a2 a3 a4

def E66b := en [(167, sp167)] [(2, [0, 1, 4, 7, 8])]
def A66b : Fn [.R, .S] As := fun a b => [aH 92 a, .v false [.fn 167 [[.s b]]]]
def k66b : Fn [.I] Res := fun a => ⟨[aI a], []⟩
def T66b_2 : Fn [.R, .S, .I, .I, .I] Tb := fun a b c d e => [cH 0 92 a, cA 2 (.fn 167 [[.s b]]), cI 8 c, cI 14 d, cI 16 e]
def L66b_2 (N : Nat) {R : Type} (K : Kt R) := U66b.l2 N (J T66b_2 .ret K) (J T66b_2 (.exit 0) K)
def it66b (N : Nat) {R : Type} : It R := (lp 2 (al T66b_2 (fun K => L66b_2 N K N) an) ln)
theorem lo66b_2 {R : Type} (N : Nat) : LoopOk E66b (it66b N (R := R)) (loopOf Tryz.f66 2) := lq 2 T66b_2 (L66b_2 N) fun K g => U66b.r2 N g (J T66b_2 .ret K) (J T66b_2 (.exit 0) K)
def sp66b := spf A66b k66b U66b.c U66b.v
theorem ok66b : FnOk Tryz.prog T 66 sp66b := fq (E := E66b) (call_cons ok167 call_nil) Tryz.func66 (it := fun N => it66b N) (fun N => (loops_cons (lo66b_2 N) loops_nil)) U66b.b U66b.vo

def E68 := en [(158, sp158), (100, sp100), (63, sp63)] []
def A68 : Fn [.S, .I, .I, .S, .I] As := fun a b c d e => [aV [.s a, .n b, .n c, .s d], aI e]
def k68 : Fn [.B] Res := fun a => ⟨[aB a], []⟩
def sp68 := spf A68 k68 (ct _) U68.v
theorem ok68 : FnOk Tryz.prog T 68 sp68 := ft (E := E68) (call_cons ok158 (call_cons ok100 (call_cons ok63 call_nil))) Tryz.func68 U68.b fun (a0, a1, a2, a3, a4, _) => U68.b_eq _ a0 a1 a2 a3 a4

def E253 := en [] [(2, [0, 1, 5]), (6, [0, 1, 5, 19])]
def A253 : Fn [.I, .S] As := fun a b => [.v false [.i .u32 a], aS b]
def k253 : Fn [.I] Res := fun a => ⟨[.v false [.i .u32 a]], []⟩
def T253_2 : Fn [.I, .S, .I] Tb := fun a b c => [cA 0 (.i .u32 a), cA 2 (.s b), cI 10 c]
def T253_6 : Fn [.I, .S, .I, .I] Tb := fun a b c d => [cA 0 (.i .u32 a), cA 2 (.s b), cI 10 c, cI 38 d]
def L253_2 (N : Nat) {R : Type} (K : Kt R) := U253.l2 N (J T253_2 (.exit 0) K)
def L253_6 (N : Nat) {R : Type} (K : Kt R) := U253.l6 N (J T253_6 (.exit 2) K)
def it253 (N : Nat) {R : Type} : It R := (lp 2 (al T253_2 (fun K => L253_2 N K N) an) (lp 6 (al T253_6 (fun K => L253_6 N K N) an) ln))
theorem lo253_2 {R : Type} (N : Nat) : LoopOk E253 (it253 N (R := R)) (loopOf Tryz.f253 2) := lq 2 T253_2 (L253_2 N) fun K g => U253.r2 N g (J T253_2 (.exit 0) K)
theorem lo253_6 {R : Type} (N : Nat) : LoopOk E253 (it253 N (R := R)) (loopOf Tryz.f253 6) := lq 6 T253_6 (L253_6 N) fun K g => U253.r6 N g (J T253_6 (.exit 2) K)
def sp253 := spf A253 k253 U253.c U253.v
theorem ok253 : FnOk Tryz.prog T 253 sp253 := fq (E := E253) call_nil Tryz.func253 (it := fun N => it253 N) (fun N => (loops_cons (lo253_2 N) (loops_cons (lo253_6 N) loops_nil))) U253.b U253.vo

def E224 := en [(253, sp253)] []
def A224 : Fn [.S] As := fun a => [aS a]
def k224 : Fn [.I] Res := fun a => ⟨[.v false [.i .u32 a]], []⟩
def sp224 := spf A224 k224 U224.c U224.v
theorem ok224 : FnOk Tryz.prog T 224 sp224 := fr (E := E224) (call_cons ok253 call_nil) Tryz.func224 U224.b U224.vo

def E170 := en [(224, sp224)] []
def A170 : Fn [.I, .S] As := fun a b => [aI a, aS b]
def k170 : Fn [.I] Res := fun a => ⟨[aI a], []⟩
def sp170 := spf A170 k170 U170.c U170.v
theorem ok170 : FnOk Tryz.prog T 170 sp170 := fr (E := E170) (call_cons ok224 call_nil) Tryz.func170 U170.b U170.vo

def E74 := en [(168, sp168), (169, sp169), (170, sp170)] [(5, [1, 4, 5, 19, 20, 21]), (15, [4, 5, 49, 50, 51]), (18, [4, 5, 10, 49, 50, 51, 56, 57])]
def A74 : Fn [.R, .I, .S] As := fun a b c => [aV [.sh 59 a, .n b], aS c]
def k74 : Fn [.R, .I] Res := fun a b => ⟨[aV [.ow 59 true a, .n b]], []⟩
def T74_5 : Fn [.S, .I, .I, .I, .I, .R] Tb := fun a b c d e f => [cA 2 (.s a), cP 8 0, cP 10 1, cA 38 (.own 2), cI 40 b, cI 42 c, oB 1 [.nl, .n d], oB 3 [.own 2, .n e], oR 5 59 f]
def T74_15 : Fn [.I, .I, .I, .I, .R] Tb := fun a b c d e => [cP 8 0, cP 10 1, cA 98 (.own 2), cI 100 a, cI 102 b, oB 1 [.nl, .n c], oB 3 [.own 2, .n d], oR 5 59 e]
def T74_18 : Fn [.N, .I, .I, .I, .I, .I, .I, .R] Tb := fun a b c d e f g h => [cP 8 0, cP 10 1, cA 20 (.inn 2 a 0), cA 98 (.own 2), cI 100 b, cI 102 c, cI 112 d, cI 114 e, oB 1 [.nl, .n f], oB 3 [.own 2, .n g], oR 5 59 h]
def L74_5 (N : Nat) {R : Type} (K : Kt R) := U74.l5 N (J T74_5 (.exit 0) K)
def L74_15 (N : Nat) {R : Type} (K : Kt R) := U74.l15 N (J T74_15 (.exit 2) K)
def L74_18 (N : Nat) {R : Type} (K : Kt R) := U74.l18 N (J T74_18 (.exit 4) K)
def it74 (N : Nat) {R : Type} : It R := (lp 5 (al T74_5 (fun K => L74_5 N K N) an) (lp 15 (al T74_15 (fun K => L74_15 N K N) an) (lp 18 (al T74_18 (fun K => L74_18 N K N) an) ln)))
theorem lo74_5 {R : Type} (N : Nat) : LoopOk E74 (it74 N (R := R)) (loopOf Tryz.f74 5) := lq 5 T74_5 (L74_5 N) fun K g => U74.r5 N g (J T74_5 (.exit 0) K)
theorem lo74_15 {R : Type} (N : Nat) : LoopOk E74 (it74 N (R := R)) (loopOf Tryz.f74 15) := lq 15 T74_15 (L74_15 N) fun K g => U74.r15 N g (J T74_15 (.exit 2) K)
theorem lo74_18 {R : Type} (N : Nat) : LoopOk E74 (it74 N (R := R)) (loopOf Tryz.f74 18) := lq 18 T74_18 (L74_18 N) fun K g => U74.r18 N g (J T74_18 (.exit 4) K)
def sp74 := spf A74 k74 U74.c U74.v
theorem ok74 : FnOk Tryz.prog T 74 sp74 := fq (E := E74) (call_cons ok168 (call_cons ok169 (call_cons ok170 call_nil))) Tryz.func74 (it := fun N => it74 N) (fun N => (loops_cons (lo74_5 N) (loops_cons (lo74_15 N) (loops_cons (lo74_18 N) loops_nil)))) U74.b U74.vo

def E220 := en [] []
def A220 : Fn [.S, .S] As := fun a b => [aS a, .fb [.s b]]
def k220 : Fn [.B] Res := fun a => ⟨[aB a], []⟩
def sp220 := spf A220 k220 (ct _) U220.v
theorem ok220 : FnOk Tryz.prog T 220 sp220 := ft (E := E220) call_nil Tryz.func220 U220.b fun (a0, a1, _) => U220.b_eq _ a0 a1

def E251 := en [(220, sp220)] [(2, [0, 1, 4, 7, 8])]
def A251 : Fn [.R, .S] As := fun a b => [aH 9 a, .v false [.fn 220 [[.s b]]]]
def k251 : Fn [.I] Res := fun a => ⟨[aI a], []⟩
def T251_2 : Fn [.R, .S, .I, .I, .I] Tb := fun a b c d e => [cH 0 9 a, cA 2 (.fn 220 [[.s b]]), cI 8 c, cI 14 d, cI 16 e]
def L251_2 (N : Nat) {R : Type} (K : Kt R) := U251.l2 N (J T251_2 .ret K) (J T251_2 (.exit 0) K)
def it251 (N : Nat) {R : Type} : It R := (lp 2 (al T251_2 (fun K => L251_2 N K N) an) ln)
theorem lo251_2 {R : Type} (N : Nat) : LoopOk E251 (it251 N (R := R)) (loopOf Tryz.f251 2) := lq 2 T251_2 (L251_2 N) fun K g => U251.r2 N g (J T251_2 .ret K) (J T251_2 (.exit 0) K)
def sp251 := spf A251 k251 U251.c U251.v
theorem ok251 : FnOk Tryz.prog T 251 sp251 := fq (E := E251) (call_cons ok220 call_nil) Tryz.func251 (it := fun N => it251 N) (fun N => (loops_cons (lo251_2 N) loops_nil)) U251.b U251.vo

def E219 := en [(251, sp251), (220, sp220)] [(5, [0, 1, 5, 6])]
def A219 : Fn [.R, .S] As := fun a b => [aO 9 a, .v false [.fn 220 [[.s b]]]]
def k219 : Fn [.R] Res := fun a => ⟨[aO 9 a], [[.nl]]⟩
def T219_5 : Fn [.S, .I, .I, .R] Tb := fun a b c d => [cA 0 (.own 900000000), cA 2 (.fn 220 [[.s a]]), cI 10 b, cI 12 c, oR 1800000001 9 d]
def L219_5 (N : Nat) {R : Type} (K : Kt R) := U219.l5 N (J T219_5 (.exit 0) K)
def it219 (N : Nat) {R : Type} : It R := (lp 5 (al T219_5 (fun K => L219_5 N K N) an) ln)
theorem lo219_5 {R : Type} (N : Nat) : LoopOk E219 (it219 N (R := R)) (loopOf Tryz.f219 5) := lq 5 T219_5 (L219_5 N) fun K g => U219.r5 N g (J T219_5 (.exit 0) K)
def sp219 := spf A219 k219 U219.c U219.v
theorem ok219 : FnOk Tryz.prog T 219 sp219 := fq (E := E219) (call_cons ok251 (call_cons ok220 call_nil)) Tryz.func219 (it := fun N => it219 N) (fun N => (loops_cons (lo219_5 N) loops_nil)) U219.b U219.vo

def E161 := en [(217, sp217), (219, sp219)] []
def A161 : Fn [.R, .S] As := fun a b => [aH 9 a, aS b]
def k161 : Fn [.R] Res := fun a => ⟨[aO 9 a], []⟩
def sp161 := spf A161 k161 U161.c U161.v
theorem ok161 : FnOk Tryz.prog T 161 sp161 := fr (E := E161) (call_cons ok217 (call_cons ok219 call_nil)) Tryz.func161 U161.b U161.vo

def E162 := en [(169, sp169), (170, sp170)] [(5, [1, 5, 12, 13, 14])]
def A162 : Fn [.R, .I, .S] As := fun a b c => [aV [.sh 59 a, .n b], aS c]
def k162 : Fn [.I] Res := fun a => ⟨[aI a], []⟩
def T162_5 : Fn [.S, .I, .R, .I, .I] Tb := fun a b c d e => [cA 2 (.s a), cI 10 b, cH 24 59 c, cI 26 d, cI 28 e]
def L162_5 (N : Nat) {R : Type} (K : Kt R) := U162.l5 N (J T162_5 (.exit 0) K)
def it162 (N : Nat) {R : Type} : It R := (lp 5 (al T162_5 (fun K => L162_5 N K N) an) ln)
theorem lo162_5 {R : Type} (N : Nat) : LoopOk E162 (it162 N (R := R)) (loopOf Tryz.f162 5) := lq 5 T162_5 (L162_5 N) fun K g => U162.r5 N g (J T162_5 (.exit 0) K)
def sp162 := spf A162 k162 U162.c U162.v
theorem ok162 : FnOk Tryz.prog T 162 sp162 := fq (E := E162) (call_cons ok169 (call_cons ok170 call_nil)) Tryz.func162 (it := fun N => it162 N) (fun N => (loops_cons (lo162_5 N) loops_nil)) U162.b U162.vo

def E69 := en [(155, sp155), (159, sp159), (64, sp64), (74, sp74), (160, sp160), (161, sp161), (162, sp162)] []
def A69 : Fn [.R, .R, .R, .I, .S] As := fun a b c d e => [aV [.sh 9 a, .sh 9 b, .sh 59 c, .n d], aS e]
def k69 : Fn [.R, .R, .R, .I, .S] Res := fun a b c d e => ⟨[aV [.ow 9 true a, .ow 9 true b, .ow 59 true c, .n d], aS e], []⟩
def sp69 := spf A69 k69 U69.c U69.v
theorem ok69 : FnOk Tryz.prog T 69 sp69 := fr (E := E69) (call_cons ok155 (call_cons ok159 (call_cons ok64 (call_cons ok74 (call_cons ok160 (call_cons ok161 (call_cons ok162 call_nil))))))) Tryz.func69 U69.b U69.vo

def rho163 : Go.Shelf.Ren := ⟨fun n => bif Nat.beq n 22 then 163 else bif Nat.beq n 29 then 221 else 222, fun n => bif Nat.beq n 24 then 39 else bif Nat.beq n 9 then 53 else bif Nat.beq n 3 then 3 else bif Nat.beq n 4 then 4 else n, fun n => n⟩
def sp163 : List Arg -> Option (Bool × Res) := Ins.insSpec 53 72
theorem ins163 : Ins.L Tryz.prog rho163 "slices.Insert[[]loop.example/g00245/impl.Client,loop.example/g00245/impl.Client]" 7 where
 mixed := hM
 f22 := Tryz.func163.trans (by kernel_rfl)
 t3 := by kernel_rfl
 a3 := Ins.agg_false (P := Tryz.prog) (t := 3) (d := .int .i64) (by kernel_rfl) rfl
 t4 := by kernel_rfl
 a4 := Ins.agg_false (P := Tryz.prog) (t := 4) (d := .bool) (by kernel_rfl) rfl
 t24 := by kernel_rfl
 a24 := Ins.agg_false (P := Tryz.prog) (t := 39) (d := .slice 53) (by kernel_rfl) rfl
 z9 := Ins.size_of hE (t := 53) (ti := ⟨true, [.i .i64, .s, .i .i64, .i .i64, .i .i64, .s, .i .i64], 72⟩) (by kernel_rfl)
theorem ok163 : FnOk Tryz.prog T 163 sp163 :=
 Ins.insert_ok (e := 53) (te := ⟨true, [.i .i64, .s, .i .i64, .i .i64, .i .i64, .s, .i .i64], 72⟩) (by kernel_rfl) rfl (by kernel_rfl) hE ins163
  (fun args w => run_callFunc_extern (e := Extern.SlicesOverlaps.overlaps #[39, 39] #[4]) Tryz.func221 (by kernel_rfl) (by kernel_rfl) (by kernel_rfl) (by kernel_rfl) args w)
  ⟨_, Tryz.func163, by kernel_rfl, by kernel_rfl⟩

def E70 := en [(163, sp163)] [(2, [0, 3, 4])]
def A70 : Fn [.I, .R, .R, .R, .R, .I, .R, .R, .I, .I, .S, .I, .I, .I, .S, .I] As := fun a b c d e f g h i j k l m o p q => [.pt [.n a, .ow 92 true b, .ow 9 true c, .ow 9 true d, .ow 59 true e, .n f, .ow 100 true g, .ow 53 true h, .n i], aV [.n j, .s k, .n l, .n m, .n o, .s p, .n q]]
def k70 : Fn [.I, .R, .R, .R, .R, .I, .R, .R, .I] Res := fun a b c d e f g h i => ⟨[], [[.n a, .kp b, .kp c, .kp d, .kp e, .n f, .kp g, .ow 53 true h, .n i]]⟩
def T70_2 : Fn [.I, .I, .I, .I, .I, .S, .I, .I, .I, .S, .I, .R, .R, .R, .R, .R, .R] Tb := fun a b c d e f g h i j k l m o p q r => [cP 0 900000900, cP 6 1, cI 8 a, oB 1800001801 [.n b, .own 900000001, .own 900000002, .own 900000003, .own 900000004, .n c, .own 900000006, .own 900000007, .n d], oB 3 [.n e, .s f, .n g, .n h, .n i, .s j, .n k], oR 1800000003 92 l, oR 1800000005 9 m, oR 1800000007 9 o, oR 1800000009 59 p, oR 1800000013 100 q, oR 1800000015 53 r]
def L70_2 (N : Nat) {R : Type} (K : Kt R) := U70.l2 N (J T70_2 (.exit 0) K)
def it70 (N : Nat) {R : Type} : It R := (lp 2 (al T70_2 (fun K => L70_2 N K N) an) ln)
theorem lo70_2 {R : Type} (N : Nat) : LoopOk E70 (it70 N (R := R)) (loopOf Tryz.f70 2) := lq 2 T70_2 (L70_2 N) fun K g => U70.r2 N g (J T70_2 (.exit 0) K)
def sp70 := spf A70 k70 U70.c U70.v
theorem ok70 : FnOk Tryz.prog T 70 sp70 := fq (E := E70) (call_cons ok163 call_nil) Tryz.func70 (it := fun N => it70 N) (fun N => (loops_cons (lo70_2 N) loops_nil)) U70.b U70.vo

def E166 := en [(66, sp66a), (66, sp66b), (167, sp167)] [(5, [0, 1, 5, 6])]
def A166 : Fn [.R, .S] As := fun a b => [aO 92 a, .v false [.fn 167 [[.s b]]]]
def k166 : Fn [.R] Res := fun a => ⟨[aO 92 a], [[.nl]]⟩
def T166_5 : Fn [.S, .I, .I, .R] Tb := fun a b c d => [cA 0 (.own 900000000), cA 2 (.fn 167 [[.s a]]), cI 10 b, cI 12 c, oR 1800000001 92 d]
def L166_5 (N : Nat) {R : Type} (K : Kt R) := U166.l5 N (J T166_5 (.exit 0) K)
def it166 (N : Nat) {R : Type} : It R := (lp 5 (al T166_5 (fun K => L166_5 N K N) an) ln)
theorem lo166_5 {R : Type} (N : Nat) : LoopOk E166 (it166 N (R := R)) (loopOf Tryz.f166 5) := lq 5 T166_5 (L166_5 N) fun K g => U166.r5 N g (J T166_5 (.exit 0) K)
def sp166 := spf A166 k166 U166.c U166.v
theorem ok166 : FnOk Tryz.prog T 166 sp166 := fq (E := E166) (call_cons ok66a (call_cons ok66b (call_cons ok167 call_nil))) Tryz.func166 (it := fun N => it166 N) (fun N => (loops_cons (lo166_5 N) loops_nil)) U166.b U166.vo

def E72 := en [(154, sp154), (166, sp166)] []
def A72 : Fn [.R, .S] As := fun a b => [aH 92 a, aS b]
def k72 : Fn [.R] Res := fun a => ⟨[aO 92 a], []⟩
def sp72 := spf A72 k72 U72.c U72.v
theorem ok72 : FnOk Tryz.prog T 72 sp72 := fr (E := E72) (call_cons ok154 (call_cons ok166 call_nil)) Tryz.func72 U72.b U72.vo

def E73 := en [(155, sp155), (161, sp161)] []
def A73 : Fn [.R, .R, .R, .I, .S] As := fun a b c d e => [aV [.sh 9 a, .sh 9 b, .sh 59 c, .n d], aS e]
def k73 : Fn [.R, .R, .R, .I] Res := fun a b c d => ⟨[aV [.ow 9 true a, .ow 9 true b, .ow 59 true c, .n d]], []⟩
def sp73 := spf A73 k73 U73.c U73.v
theorem ok73 : FnOk Tryz.prog T 73 sp73 := fr (E := E73) (call_cons ok155 (call_cons ok161 call_nil)) Tryz.func73 U73.b U73.vo

def E11 := en [(62, sp62), (25, sp25), (63, sp63), (64, sp64), (65, sp65), (66, sp66a), (66, sp66b), (68, sp68), (69, sp69), (70, sp70), (71, sp71), (72, sp72), (73, sp73), (74, sp74)] []
def A11 : Fn [.I, .R, .R, .R, .R, .I, .R, .R, .I, .I, .S] As := fun a b c d e f g h i j k => [aV [.n a, .sh 92 b, .sh 9 c, .sh 9 d, .sh 59 e, .n f, .sh 100 g, .sh 53 h, .n i], aI j, aS k]
def k11 : Fn [.I, .R, .R, .R, .R, .I, .R, .R, .I, .I] Res := fun a b c d e f g h i j => ⟨[aV [.n a, .ow 92 true b, .ow 9 true c, .ow 9 true d, .ow 59 true e, .n f, .ow 100 true g, .ow 53 true h, .n i], aI j], []⟩
def sp11 := spf A11 k11 U11.c U11.v
theorem ok11 : FnOk Tryz.prog T 11 sp11 := fr (E := E11) (call_cons ok62 (call_cons ok25 (call_cons ok63 (call_cons ok64 (call_cons ok65 (call_cons ok66a (call_cons ok66b (call_cons ok68 (call_cons ok69 (call_cons ok70 (call_cons ok71 (call_cons ok72 (call_cons ok73 (call_cons ok74 call_nil)))))))))))))) Tryz.func11 U11.b U11.vo

def E171 := en [] []
def A171 : Fn [.S, .I, .I, .S, .S, .I, .I, .S] As := fun a b c d e f g h => [aV [.s a, .n b, .n c, .s d], aV [.s e, .n f, .n g, .s h]]
def k171 : Fn [.B] Res := fun a => ⟨[aB a], []⟩
def sp171 := spf A171 k171 (ct _) U171.v
theorem ok171 : FnOk Tryz.prog T 171 sp171 := ft (E := E171) call_nil Tryz.func171 U171.b fun (a0, a1, a2, a3, a4, a5, a6, a7, _) => U171.b_eq _ a0 a1 a2 a3 a4 a5 a6 a7

def E75 := en [(171, sp171)] [(4, [0, 1, 4, 5])]
def A75 : Fn [.R, .R] As := fun a b => [aH 92 a, aH 92 b]
def k75 : Fn [.B] Res := fun a => ⟨[aB a], []⟩
def T75_4 : Fn [.R, .R, .B, .I] Tb := fun a b c d => [cH 0 92 a, cH 2 92 b, cA 8 (.b c), cI 10 d]
def L75_4 (N : Nat) {R : Type} (K : Kt R) := U75.l4 N (J T75_4 .ret K) (J T75_4 (.exit 0) K)
def it75 (N : Nat) {R : Type} : It R := (lp 4 (al T75_4 (fun K => L75_4 N K N) an) ln)
theorem lo75_4 {R : Type} (N : Nat) : LoopOk E75 (it75 N (R := R)) (loopOf Tryz.f75 4) := lq 4 T75_4 (L75_4 N) fun K g => U75.r4 N g (J T75_4 .ret K) (J T75_4 (.exit 0) K)
def sp75 := spf A75 k75 U75.c U75.v
theorem ok75 : FnOk Tryz.prog T 75 sp75 := fq (E := E75) (call_cons ok171 call_nil) Tryz.func75 (it := fun N => it75 N) (fun N => (loops_cons (lo75_4 N) loops_nil)) U75.b U75.vo

def E172 := en [] [(4, [0, 1, 4, 5])]
def A172 : Fn [.R, .R] As := fun a b => [aH 9 a, aH 9 b]
def k172 : Fn [.B] Res := fun a => ⟨[aB a], []⟩
def T172_4 : Fn [.R, .R, .B, .I] Tb := fun a b c d => [cH 0 9 a, cH 2 9 b, cA 8 (.b c), cI 10 d]
def L172_4 (N : Nat) {R : Type} (K : Kt R) := U172.l4 N (J T172_4 .ret K) (J T172_4 (.exit 0) K)
def it172 (N : Nat) {R : Type} : It R := (lp 4 (al T172_4 (fun K => L172_4 N K N) an) ln)
theorem lo172_4 {R : Type} (N : Nat) : LoopOk E172 (it172 N (R := R)) (loopOf Tryz.f172 4) := lq 4 T172_4 (L172_4 N) fun K g => U172.r4 N g (J T172_4 .ret K) (J T172_4 (.exit 0) K)
def sp172 := spf A172 k172 U172.c U172.v
theorem ok172 : FnOk Tryz.prog T 172 sp172 := fq (E := E172) call_nil Tryz.func172 (it := fun N => it172 N) (fun N => (loops_cons (lo172_4 N) loops_nil)) U172.b U172.vo

def E124 := en [] [(4, [0, 1, 4, 5])]
def A124 : Fn [.R, .R] As := fun a b => [aH 3 a, aH 3 b]
def k124 : Fn [.B] Res := fun a => ⟨[aB a], []⟩
def T124_4 : Fn [.R, .R, .B, .I] Tb := fun a b c d => [cH 0 3 a, cH 2 3 b, cA 8 (.b c), cI 10 d]
def L124_4 (N : Nat) {R : Type} (K : Kt R) := U124.l4 N (J T124_4 .ret K) (J T124_4 (.exit 0) K)
def it124 (N : Nat) {R : Type} : It R := (lp 4 (al T124_4 (fun K => L124_4 N K N) an) ln)
theorem lo124_4 {R : Type} (N : Nat) : LoopOk E124 (it124 N (R := R)) (loopOf Tryz.f124 4) := lq 4 T124_4 (L124_4 N) fun K g => U124.r4 N g (J T124_4 .ret K) (J T124_4 (.exit 0) K)
def sp124 := spf A124 k124 (ct _) U124.v
theorem ok124 : FnOk Tryz.prog T 124 sp124 := fh (E := E124) call_nil Tryz.func124 (it := fun N => it124 N) (fun N => (loops_cons (lo124_4 N) loops_nil)) U124.b fun x f h => U124.b_eq _ x.1 x.2.1 f.1.1 f.2.1.1

def E225 := en [(124, sp124)] [(4, [0, 1, 4, 5])]
def A225 : Fn [.R, .R] As := fun a b => [aH 59 a, aH 59 b]
def k225 : Fn [.B] Res := fun a => ⟨[aB a], []⟩
def T225_4 : Fn [.R, .R, .B, .I] Tb := fun a b c d => [cH 0 59 a, cH 2 59 b, cA 8 (.b c), cI 10 d]
def L225_4 (N : Nat) {R : Type} (K : Kt R) := U225.l4 N (J T225_4 .ret K) (J T225_4 (.exit 0) K)
def it225 (N : Nat) {R : Type} : It R := (lp 4 (al T225_4 (fun K => L225_4 N K N) an) ln)
theorem lo225_4 {R : Type} (N : Nat) : LoopOk E225 (it225 N (R := R)) (loopOf Tryz.f225 4) := lq 4 T225_4 (L225_4 N) fun K g => U225.r4 N g (J T225_4 .ret K) (J T225_4 (.exit 0) K)
def sp225 := spf A225 k225 U225.c U225.v
theorem ok225 : FnOk Tryz.prog T 225 sp225 := fq (E := E225) (call_cons ok124 call_nil) Tryz.func225 (it := fun N => it225 N) (fun N => (loops_cons (lo225_4 N) loops_nil)) U225.b U225.vo

def E173 := en [(225, sp225)] []
def A173 : Fn [.R, .I, .R, .I] As := fun a b c d => [aV [.sh 59 a, .n b], aV [.sh 59 c, .n d]]
def k173 : Fn [.B] Res := fun a => ⟨[aB a], []⟩
def sp173 := spf A173 k173 U173.c U173.v
theorem ok173 : FnOk Tryz.prog T 173 sp173 := fr (E := E173) (call_cons ok225 call_nil) Tryz.func173 U173.b U173.vo

def E76 := en [(172, sp172), (173, sp173)] []
def A76 : Fn [.R, .R, .R, .I, .R, .R, .R, .I] As := fun a b c d e f g h => [aV [.sh 9 a, .sh 9 b, .sh 59 c, .n d], aV [.sh 9 e, .sh 9 f, .sh 59 g, .n h]]
def k76 : Fn [.B] Res := fun a => ⟨[aB a], []⟩
def sp76 := spf A76 k76 U76.c U76.v
theorem ok76 : FnOk Tryz.prog T 76 sp76 := fr (E := E76) (call_cons ok172 (call_cons ok173 call_nil)) Tryz.func76 U76.b U76.vo

def E174 := en [] []
def A174 : Fn [.S, .S, .I, .I, .I, .S, .S, .I, .I, .I] As := fun a b c d e f g h i j => [aV [.s a, .s b, .n c, .n d, .n e], aV [.s f, .s g, .n h, .n i, .n j]]
def k174 : Fn [.B] Res := fun a => ⟨[aB a], []⟩
def sp174 := spf A174 k174 (ct _) U174.v
theorem ok174 : FnOk Tryz.prog T 174 sp174 := ft (E := E174) call_nil Tryz.func174 U174.b fun (a0, a1, a2, a3, a4, a5, a6, a7, a8, a9, _) => U174.b_eq _ a0 a1 a2 a3 a4 a5 a6 a7 a8 a9

def E77 := en [(174, sp174)] [(4, [0, 1, 4, 5])]
def A77 : Fn [.R, .R] As := fun a b => [aH 100 a, aH 100 b]
def k77 : Fn [.B] Res := fun a => ⟨[aB a], []⟩
def T77_4 : Fn [.R, .R, .B, .I] Tb := fun a b c d => [cH 0 100 a, cH 2 100 b, cA 8 (.b c), cI 10 d]
def L77_4 (N : Nat) {R : Type} (K : Kt R) := U77.l4 N (J T77_4 .ret K) (J T77_4 (.exit 0) K)
def it77 (N : Nat) {R : Type} : It R := (lp 4 (al T77_4 (fun K => L77_4 N K N) an) ln)
theorem lo77_4 {R : Type} (N : Nat) : LoopOk E77 (it77 N (R := R)) (loopOf Tryz.f77 4) := lq 4 T77_4 (L77_4 N) fun K g => U77.r4 N g (J T77_4 .ret K) (J T77_4 (.exit 0) K)
def sp77 := spf A77 k77 U77.c U77.v
theorem ok77 : FnOk Tryz.prog T 77 sp77 := fq (E := E77) (call_cons ok174 call_nil) Tryz.func77 (it := fun N => it77 N) (fun N => (loops_cons (lo77_4 N) loops_nil)) U77.b U77.vo

def E175 := en [] []
def A175 : Fn [.I, .S, .I, .I, .I, .S, .I, .I, .S, .I, .I, .I, .S, .I] As := fun a b c d e f g h i j k l m o => [aV [.n a, .s b, .n c, .n d, .n e, .s f, .n g], aV [.n h, .s i, .n j, .n k, .n l, .s m, .n o]]
def k175 : Fn [.B] Res := fun a => ⟨[aB a], []⟩
def sp175 := spf A175 k175 (ct _) U175.v
theorem ok175 : FnOk Tryz.prog T 175 sp175 := ft (E := E175) call_nil Tryz.func175 U175.b fun (a0, a1, a2, a3, a4, a5, a6, a7, a8, a9, a10, a11, a12, a13, _) => U175.b_eq _ a0 a1 a2 a3 a4 a5 a6 a7 a8 a9 a10 a11 a12 a13

def E78 := en [(175, sp175)] [(4, [0, 1, 4, 5])]
def A78 : Fn [.R, .R] As := fun a b => [aH 53 a, aH 53 b]
def k78 : Fn [.B] Res := fun a => ⟨[aB a], []⟩
def T78_4 : Fn [.R, .R, .B, .I] Tb := fun a b c d => [cH 0 53 a, cH 2 53 b, cA 8 (.b c), cI 10 d]
def L78_4 (N : Nat) {R : Type} (K : Kt R) := U78.l4 N (J T78_4 .ret K) (J T78_4 (.exit 0) K)
def it78 (N : Nat) {R : Type} : It R := (lp 4 (al T78_4 (fun K => L78_4 N K N) an) ln)
theorem lo78_4 {R : Type} (N : Nat) : LoopOk E78 (it78 N (R := R)) (loopOf Tryz.f78 4) := lq 4 T78_4 (L78_4 N) fun K g => U78.r4 N g (J T78_4 .ret K) (J T78_4 (.exit 0) K)
def sp78 := spf A78 k78 U78.c U78.v
theorem ok78 : FnOk Tryz.prog T 78 sp78 := fq (E := E78) (call_cons ok175 call_nil) Tryz.func78 (it := fun N => it78 N) (fun N => (loops_cons (lo78_4 N) loops_nil)) U78.b U78.vo

def E12 := en [(75, sp75), (76, sp76), (77, sp77), (78, sp78)] []
def A12 : Fn [.I, .R, .R, .R, .R, .I, .R, .R, .I, .I, .R, .R, .R, .R, .I, .R, .R, .I] As := fun a b c d e f g h i j k l m o p q r s => [aV [.n a, .sh 92 b, .sh 9 c, .sh 9 d, .sh 59 e, .n f, .sh 100 g, .sh 53 h, .n i], aV [.n j, .sh 92 k, .sh 9 l, .sh 9 m, .sh 59 o, .n p, .sh 100 q, .sh 53 r, .n s]]
def k12 : Fn [.B] Res := fun a => ⟨[aB a], []⟩
def sp12 := spf A12 k12 U12.c U12.v
theorem ok12 : FnOk Tryz.prog T 12 sp12 := fr (E := E12) (call_cons ok75 (call_cons ok76 (call_cons ok77 (call_cons ok78 call_nil)))) Tryz.func12 U12.b U12.vo

def E176 := en [] [(4, [0, 3])]
def A176 : Fn [.I] As := fun a => [aI a]
def k176 : Fn [.S] Res := fun a => ⟨[aS a], []⟩
def T176_4 : Fn [.I, .S] Tb := fun a b => [cI 0 a, cA 6 (.s b)]
def L176_4 (N : Nat) {R : Type} (K : Kt R) := U176.l4 N (J T176_4 (.exit 0) K)
def it176 (N : Nat) {R : Type} : It R := (lp 4 (al T176_4 (fun K => L176_4 N K N) an) ln)
theorem lo176_4 {R : Type} (N : Nat) : LoopOk E176 (it176 N (R := R)) (loopOf Tryz.f176 4) := lq 4 T176_4 (L176_4 N) fun K g => U176.r4 N g (J T176_4 (.exit 0) K)
def sp176 := spf A176 k176 U176.c U176.v
theorem ok176 : FnOk Tryz.prog T 176 sp176 := fq (E := E176) call_nil Tryz.func176 (it := fun N => it176 N) (fun N => (loops_cons (lo176_4 N) loops_nil)) U176.b U176.vo

def E79 := en [(176, sp176)] [(2, [0, 1, 5])]
def A79 : Fn [.R, .I] As := fun a b => [aO 92 a, aI b]
def k79 : Fn [.I, .R] Res := fun a b => ⟨[aI a], [[.kp b]]⟩
def T79_2 : Fn [.I, .I, .R] Tb := fun a b c => [cA 0 (.own 900000000), cI 2 a, cI 10 b, oR 1800000001 92 c]
def L79_2 (N : Nat) {R : Type} (K : Kt R) := U79.l2 N (J T79_2 (.exit 0) K)
def it79 (N : Nat) {R : Type} : It R := (lp 2 (al T79_2 (fun K => L79_2 N K N) an) ln)
theorem lo79_2 {R : Type} (N : Nat) : LoopOk E79 (it79 N (R := R)) (loopOf Tryz.f79 2) := lq 2 T79_2 (L79_2 N) fun K g => U79.r2 N g (J T79_2 (.exit 0) K)
def sp79 := spf A79 k79 U79.c U79.v
theorem ok79 : FnOk Tryz.prog T 79 sp79 := fq (E := E79) (call_cons ok176 call_nil) Tryz.func79 (it := fun N => it79 N) (fun N => (loops_cons (lo79_2 N) loops_nil)) U79.b U79.vo

def E177 := en [(176, sp176)] [(2, [0, 1, 5])]
def A177 : Fn [.R, .I] As := fun a b => [aO 9 a, aI b]
def k177 : Fn [.I, .R] Res := fun a b => ⟨[aI a], [[.kp b]]⟩
def T177_2 : Fn [.I, .I, .R] Tb := fun a b c => [cA 0 (.own 900000000), cI 2 a, cI 10 b, oR 1800000001 9 c]
def L177_2 (N : Nat) {R : Type} (K : Kt R) := U177.l2 N (J T177_2 (.exit 0) K)
def it177 (N : Nat) {R : Type} : It R := (lp 2 (al T177_2 (fun K => L177_2 N K N) an) ln)
theorem lo177_2 {R : Type} (N : Nat) : LoopOk E177 (it177 N (R := R)) (loopOf Tryz.f177 2) := lq 2 T177_2 (L177_2 N) fun K g => U177.r2 N g (J T177_2 (.exit 0) K)
def sp177 := spf A177 k177 U177.c U177.v
theorem ok177 : FnOk Tryz.prog T 177 sp177 := fq (E := E177) (call_cons ok176 call_nil) Tryz.func177 (it := fun N => it177 N) (fun N => (loops_cons (lo177_2 N) loops_nil)) U177.b U177.vo

def E254 := en [] [(2, [0, 1, 5])]
def A254 : Fn [.R, .I] As := fun a b => [aO 3 a, aI b]
def k254 : Fn [.I, .R] Res := fun a b => ⟨[aI a], [[.kp b]]⟩
def T254_2 : Fn [.I, .I, .R] Tb := fun a b c => [cA 0 (.own 900000000), cI 2 a, cI 10 b, oR 1800000001 3 c]
def L254_2 (N : Nat) {R : Type} (K : Kt R) := U254.l2 N (J T254_2 (.exit 0) K)
def it254 (N : Nat) {R : Type} : It R := (lp 2 (al T254_2 (fun K => L254_2 N K N) an) ln)
theorem lo254_2 {R : Type} (N : Nat) : LoopOk E254 (it254 N (R := R)) (loopOf Tryz.f254 2) := lq 2 T254_2 (L254_2 N) fun K g => U254.r2 N g (J T254_2 (.exit 0) K)
def sp254 := spf A254 k254 U254.c U254.v
theorem ok254 : FnOk Tryz.prog T 254 sp254 := fq (E := E254) call_nil Tryz.func254 (it := fun N => it254 N) (fun N => (loops_cons (lo254_2 N) loops_nil)) U254.b U254.vo

def E226 := en [(254, sp254)] [(2, [0, 1, 5])]
def A226 : Fn [.R, .I] As := fun a b => [aO 59 a, aI b]
def k226 : Fn [.I, .R] Res := fun a b => ⟨[aI a], [[.kp b]]⟩
def T226_2 : Fn [.I, .I, .R] Tb := fun a b c => [cA 0 (.own 900000000), cI 2 a, cI 10 b, oR 1800000001 59 c]
def L226_2 (N : Nat) {R : Type} (K : Kt R) := U226.l2 N (J T226_2 (.exit 0) K)
def it226 (N : Nat) {R : Type} : It R := (lp 2 (al T226_2 (fun K => L226_2 N K N) an) ln)
theorem lo226_2 {R : Type} (N : Nat) : LoopOk E226 (it226 N (R := R)) (loopOf Tryz.f226 2) := lq 2 T226_2 (L226_2 N) fun K g => U226.r2 N g (J T226_2 (.exit 0) K)
def sp226 := spf A226 k226 U226.c U226.v
theorem ok226 : FnOk Tryz.prog T 226 sp226 := fq (E := E226) (call_cons ok254 call_nil) Tryz.func226 (it := fun N => it226 N) (fun N => (loops_cons (lo226_2 N) loops_nil)) U226.b U226.vo

def E178 := en [(226, sp226)] []
def A178 : Fn [.R, .I, .I] As := fun a b c => [aV [.ow 59 true a, .n b], aI c]
def k178 : Fn [.I, .R] Res := fun a b => ⟨[aI a], [[.kp b, .nl]]⟩
def sp178 := spf A178 k178 U178.c U178.v
theorem ok178 : FnOk Tryz.prog T 178 sp178 := fr (E := E178) (call_cons ok226 call_nil) Tryz.func178 U178.b U178.vo

def E80 := en [(177, sp177), (178, sp178)] []
def A80 : Fn [.R, .R, .R, .I, .I] As := fun a b c d e => [aV [.ow 9 true a, .ow 9 true b, .ow 59 true c, .n d], aI e]
def k80 : Fn [.I, .R, .R, .R] Res := fun a b c d => ⟨[aI a], [[.kp b, .kp c, .kp d, .nl]]⟩
def sp80 := spf A80 k80 U80.c U80.v
theorem ok80 : FnOk Tryz.prog T 80 sp80 := fr (E := E80) (call_cons ok177 (call_cons ok178 call_nil)) Tryz.func80 U80.b U80.vo

def E81 := en [(176, sp176)] [(2, [0, 1, 5])]
def A81 : Fn [.R, .I] As := fun a b => [aO 100 a, aI b]
def k81 : Fn [.I, .R] Res := fun a b => ⟨[aI a], [[.kp b]]⟩
def T81_2 : Fn [.I, .I, .R] Tb := fun a b c => [cA 0 (.own 900000000), cI 2 a, cI 10 b, oR 1800000001 100 c]
def L81_2 (N : Nat) {R : Type} (K : Kt R) := U81.l2 N (J T81_2 (.exit 0) K)
def it81 (N : Nat) {R : Type} : It R := (lp 2 (al T81_2 (fun K => L81_2 N K N) an) ln)
theorem lo81_2 {R : Type} (N : Nat) : LoopOk E81 (it81 N (R := R)) (loopOf Tryz.f81 2) := lq 2 T81_2 (L81_2 N) fun K g => U81.r2 N g (J T81_2 (.exit 0) K)
def sp81 := spf A81 k81 U81.c U81.v
theorem ok81 : FnOk Tryz.prog T 81 sp81 := fq (E := E81) (call_cons ok176 call_nil) Tryz.func81 (it := fun N => it81 N) (fun N => (loops_cons (lo81_2 N) loops_nil)) U81.b U81.vo

def E82 := en [(176, sp176)] [(2, [0, 1, 5])]
def A82 : Fn [.R, .I] As := fun a b => [aO 53 a, aI b]
def k82 : Fn [.I, .R] Res := fun a b => ⟨[aI a], [[.kp b]]⟩
def T82_2 : Fn [.I, .I, .R] Tb := fun a b c => [cA 0 (.own 900000000), cI 2 a, cI 10 b, oR 1800000001 53 c]
def L82_2 (N : Nat) {R : Type} (K : Kt R) := U82.l2 N (J T82_2 (.exit 0) K)
def it82 (N : Nat) {R : Type} : It R := (lp 2 (al T82_2 (fun K => L82_2 N K N) an) ln)
theorem lo82_2 {R : Type} (N : Nat) : LoopOk E82 (it82 N (R := R)) (loopOf Tryz.f82 2) := lq 2 T82_2 (L82_2 N) fun K g => U82.r2 N g (J T82_2 (.exit 0) K)
def sp82 := spf A82 k82 U82.c U82.v
theorem ok82 : FnOk Tryz.prog T 82 sp82 := fq (E := E82) (call_cons ok176 call_nil) Tryz.func82 (it := fun N => it82 N) (fun N => (loops_cons (lo82_2 N) loops_nil)) U82.b U82.vo

def E13 := en [(79, sp79), (80, sp80), (81, sp81), (82, sp82)] []
def A13 : Fn [.I, .R, .R, .R, .R, .I, .R, .R, .I, .I] As := fun a b c d e f g h i j => [aV [.n a, .ow 92 true b, .ow 9 true c, .ow 9 true d, .ow 59 true e, .n f, .ow 100 true g, .ow 53 true h, .n i], aI j]
def k13 : Fn [.I, .R, .R, .R, .R, .R, .R] Res := fun a b c d e f g => ⟨[aI a], [[.nl, .kp b, .kp c, .kp d, .kp e, .nl, .kp f, .kp g, .nl]]⟩
def sp13 := spf A13 k13 U13.c U13.v
theorem ok13 : FnOk Tryz.prog T 13 sp13 := fr (E := E13) (call_cons ok79 (call_cons ok80 (call_cons ok81 (call_cons ok82 call_nil)))) Tryz.func13 U13.b U13.vo

def E83 := en [(176, sp176)] [(2, [0, 1, 4, 5])]
def A83 : Fn [.R, .I] As := fun a b => [aH 92 a, aI b]
def k83 : Fn [.I] Res := fun a => ⟨[aI a], []⟩
def T83_2 : Fn [.R, .I, .I, .I] Tb := fun a b c d => [cH 0 92 a, cI 2 b, cI 8 c, cI 10 d]
def L83_2 (N : Nat) {R : Type} (K : Kt R) := U83.l2 N (J T83_2 .ret K) (J T83_2 (.exit 0) K)
def it83 (N : Nat) {R : Type} : It R := (lp 2 (al T83_2 (fun K => L83_2 N K N) an) ln)
theorem lo83_2 {R : Type} (N : Nat) : LoopOk E83 (it83 N (R := R)) (loopOf Tryz.f83 2) := lq 2 T83_2 (L83_2 N) fun K g => U83.r2 N g (J T83_2 .ret K) (J T83_2 (.exit 0) K)
def sp83 := spf A83 k83 U83.c U83.v
theorem ok83 : FnOk Tryz.prog T 83 sp83 := fq (E := E83) (call_cons ok176 call_nil) Tryz.func83 (it := fun N => it83 N) (fun N => (loops_cons (lo83_2 N) loops_nil)) U83.b U83.vo

def E179 := en [(176, sp176)] [(2, [0, 1, 4, 5])]
def A179 : Fn [.R, .I] As := fun a b => [aH 9 a, aI b]
def k179 : Fn [.I] Res := fun a => ⟨[aI a], []⟩
def T179_2 : Fn [.R, .I, .I, .I] Tb := fun a b c d => [cH 0 9 a, cI 2 b, cI 8 c, cI 10 d]
def L179_2 (N : Nat) {R : Type} (K : Kt R) := U179.l2 N (J T179_2 .ret K) (J T179_2 (.exit 0) K)
def it179 (N : Nat) {R : Type} : It R := (lp 2 (al T179_2 (fun K => L179_2 N K N) an) ln)
theorem lo179_2 {R : Type} (N : Nat) : LoopOk E179 (it179 N (R := R)) (loopOf Tryz.f179 2) := lq 2 T179_2 (L179_2 N) fun K g => U179.r2 N g (J T179_2 .ret K) (J T179_2 (.exit 0) K)
def sp179 := spf A179 k179 U179.c U179.v
theorem ok179 : FnOk Tryz.prog T 179 sp179 := fq (E := E179) (call_cons ok176 call_nil) Tryz.func179 (it := fun N => it179 N) (fun N => (loops_cons (lo179_2 N) loops_nil)) U179.b U179.vo

def E255 := en [] [(2, [0, 1, 4, 5])]
def A255 : Fn [.R, .I] As := fun a b => [aH 3 a, aI b]
def k255 : Fn [.I] Res := fun a => ⟨[aI a], []⟩
def T255_2 : Fn [.R, .I, .I, .I] Tb := fun a b c d => [cH 0 3 a, cI 2 b, cI 8 c, cI 10 d]
def L255_2 (N : Nat) {R : Type} (K : Kt R) := U255.l2 N (J T255_2 .ret K) (J T255_2 (.exit 0) K)
def it255 (N : Nat) {R : Type} : It R := (lp 2 (al T255_2 (fun K => L255_2 N K N) an) ln)
theorem lo255_2 {R : Type} (N : Nat) : LoopOk E255 (it255 N (R := R)) (loopOf Tryz.f255 2) := lq 2 T255_2 (L255_2 N) fun K g => U255.r2 N g (J T255_2 .ret K) (J T255_2 (.exit 0) K)
def sp255 := spf A255 k255 U255.c U255.v
theorem ok255 : FnOk Tryz.prog T 255 sp255 := fq (E := E255) call_nil Tryz.func255 (it := fun N => it255 N) (fun N => (loops_cons (lo255_2 N) loops_nil)) U255.b U255.vo

def E227 := en [(255, sp255)] [(2, [0, 1, 4, 5])]
def A227 : Fn [.R, .I] As := fun a b => [aH 59 a, aI b]
def k227 : Fn [.I] Res := fun a => ⟨[aI a], []⟩
def T227_2 : Fn [.R, .I, .I, .I] Tb := fun a b c d => [cH 0 59 a, cI 2 b, cI 8 c, cI 10 d]
def L227_2 (N : Nat) {R : Type} (K : Kt R) := U227.l2 N (J T227_2 .ret K) (J T227_2 (.exit 0) K)
def it227 (N : Nat) {R : Type} : It R := (lp 2 (al T227_2 (fun K => L227_2 N K N) an) ln)
theorem lo227_2 {R : Type} (N : Nat) : LoopOk E227 (it227 N (R := R)) (loopOf Tryz.f227 2) := lq 2 T227_2 (L227_2 N) fun K g => U227.r2 N g (J T227_2 .ret K) (J T227_2 (.exit 0) K)
def sp227 := spf A227 k227 U227.c U227.v
theorem ok227 : FnOk Tryz.prog T 227 sp227 := fq (E := E227) (call_cons ok255 call_nil) Tryz.func227 (it := fun N => it227 N) (fun N => (loops_cons (lo227_2 N) loops_nil)) U227.b U227.vo

def E180 := en [(227, sp227)] []
def A180 : Fn [.R, .I, .I] As := fun a b c => [aV [.sh 59 a, .n b], aI c]
def k180 : Fn [.I] Res := fun a => ⟨[aI a], []⟩
def sp180 := spf A180 k180 U180.c U180.v
theorem ok180 : FnOk Tryz.prog T 180 sp180 := fr (E := E180) (call_cons ok227 call_nil) Tryz.func180 U180.b U180.vo

def E84 := en [(179, sp179), (180, sp180)] []
def A84 : Fn [.R, .R, .R, .I, .I] As := fun a b c d e => [aV [.sh 9 a, .sh 9 b, .sh 59 c, .n d], aI e]
def k84 : Fn [.I] Res := fun a => ⟨[aI a], []⟩
def sp84 := spf A84 k84 U84.c U84.v
theorem ok84 : FnOk Tryz.prog T 84 sp84 := fr (E := E84) (call_cons ok179 (call_cons ok180 call_nil)) Tryz.func84 U84.b U84.vo

def E85 := en [(176, sp176)] [(2, [0, 1, 4, 5])]
def A85 : Fn [.R, .I] As := fun a b => [aH 100 a, aI b]
def k85 : Fn [.I] Res := fun a => ⟨[aI a], []⟩
def T85_2 : Fn [.R, .I, .I, .I] Tb := fun a b c d => [cH 0 100 a, cI 2 b, cI 8 c, cI 10 d]
def L85_2 (N : Nat) {R : Type} (K : Kt R) := U85.l2 N (J T85_2 .ret K) (J T85_2 (.exit 0) K)
def it85 (N : Nat) {R : Type} : It R := (lp 2 (al T85_2 (fun K => L85_2 N K N) an) ln)
theorem lo85_2 {R : Type} (N : Nat) : LoopOk E85 (it85 N (R := R)) (loopOf Tryz.f85 2) := lq 2 T85_2 (L85_2 N) fun K g => U85.r2 N g (J T85_2 .ret K) (J T85_2 (.exit 0) K)
def sp85 := spf A85 k85 U85.c U85.v
theorem ok85 : FnOk Tryz.prog T 85 sp85 := fq (E := E85) (call_cons ok176 call_nil) Tryz.func85 (it := fun N => it85 N) (fun N => (loops_cons (lo85_2 N) loops_nil)) U85.b U85.vo

def E86 := en [(176, sp176)] [(2, [0, 1, 4, 5])]
def A86 : Fn [.R, .I] As := fun a b => [aH 53 a, aI b]
def k86 : Fn [.I] Res := fun a => ⟨[aI a], []⟩
def T86_2 : Fn [.R, .I, .I, .I] Tb := fun a b c d => [cH 0 53 a, cI 2 b, cI 8 c, cI 10 d]
def L86_2 (N : Nat) {R : Type} (K : Kt R) := U86.l2 N (J T86_2 .ret K) (J T86_2 (.exit 0) K)
def it86 (N : Nat) {R : Type} : It R := (lp 2 (al T86_2 (fun K => L86_2 N K N) an) ln)
theorem lo86_2 {R : Type} (N : Nat) : LoopOk E86 (it86 N (R := R)) (loopOf Tryz.f86 2) := lq 2 T86_2 (L86_2 N) fun K g => U86.r2 N g (J T86_2 .ret K) (J T86_2 (.exit 0) K)
def sp86 := spf A86 k86 U86.c U86.v
theorem ok86 : FnOk Tryz.prog T 86 sp86 := fq (E := E86) (call_cons ok176 call_nil) Tryz.func86 (it := fun N => it86 N) (fun N => (loops_cons (lo86_2 N) loops_nil)) U86.b U86.vo

def E14 := en [(83, sp83), (84, sp84), (85, sp85), (86, sp86)] []
def A14 : Fn [.I, .R, .R, .R, .R, .I, .R, .R, .I, .I] As := fun a b c d e f g h i j => [aV [.n a, .sh 92 b, .sh 9 c, .sh 9 d, .sh 59 e, .n f, .sh 100 g, .sh 53 h, .n i], aI j]
def k14 : Fn [.I] Res := fun a => ⟨[aI a], []⟩
def sp14 := spf A14 k14 U14.c U14.v
theorem ok14 : FnOk Tryz.prog T 14 sp14 := fr (E := E14) (call_cons ok83 (call_cons ok84 (call_cons ok85 (call_cons ok86 call_nil)))) Tryz.func14 U14.b U14.vo

def E3 := en [(8, sp8), (10, sp10), (9, sp9), (11, sp11), (12, sp12), (13, sp13), (14, sp14)] []
def A3 : Fn [.I, .R, .R, .R, .R, .I, .R, .R, .I, .I, .S] As := fun a b c d e f g h i j k => [aV [.n a, .sh 157 b, .sh 9 c, .sh 9 d, .sh 59 e, .n f, .sh 161 g, .sh 163 h, .n i], aI j, aS k]
def k3 : Fn [.B] Res := fun a => ⟨[aB a], []⟩
def sp3 := spf A3 k3 U3.c U3.v
theorem ok3 : FnOk Tryz.prog T 3 sp3 := fr (E := E3) (call_cons ok8 (call_cons ok10 (call_cons ok9 (call_cons ok11 (call_cons ok12 (call_cons ok13 (call_cons ok14 call_nil))))))) Tryz.func3 U3.b U3.vo

def E198 := en [] [(3, [0, 3, 5, 6]), (9, [0, 3, 5, 7])]
def A198 : Fn [.R, .S, .I, .I, .S] As := fun a b c d e => [aH 92 a, aV [.s b, .n c, .n d, .s e]]
def k198 : Fn [.R] Res := fun a => ⟨[aO 92 a], []⟩
def T198_3 : Fn [.R, .I, .S, .I, .I, .S, .R] Tb := fun a b c d e f g => [cH 0 92 a, cP 6 0, cA 10 (.own 1), cI 12 b, oB 1 [.s c, .n d, .n e, .s f], oR 3 92 g]
def T198_9 : Fn [.R, .I, .S, .I, .I, .S, .R] Tb := fun a b c d e f g => [cH 0 92 a, cP 6 0, cA 10 (.own 1), cI 14 b, oB 1 [.s c, .n d, .n e, .s f], oR 3 92 g]
def L198_3 (N : Nat) {R : Type} (K : Kt R) := U198.l3 N (J T198_3 (.exit 0) K)
def L198_9 (N : Nat) {R : Type} (K : Kt R) := U198.l9 N (J T198_9 (.exit 2) K)
def it198 (N : Nat) {R : Type} : It R := (lp 3 (al T198_3 (fun K => L198_3 N K N) an) (lp 9 (al T198_9 (fun K => L198_9 N K N) an) ln))
def sp198 := spf A198 k198 U198.c U198.v

end Go.FG.Se
