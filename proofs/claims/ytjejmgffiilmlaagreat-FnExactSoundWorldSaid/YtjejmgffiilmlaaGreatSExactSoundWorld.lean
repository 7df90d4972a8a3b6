/- Functions of the program: the evaluation of each, and that a call of it does what is told. No condition. -/
import Derived.Test.YtjejmgffiilmlaaGreatTab
import Derived.Test.YtjejmgffiilmlaaGreatPExactSoundWorld
import Derived.Test.YtjejmgffiilmlaaGreatIns
set_option linter.unusedVariables false
set_option linter.unusedSimpArgs false
set_option maxRecDepth 100000
namespace Go.FG.Se
open Go.Proofs
def E135 := en [] []
def A135 : Fn [.S, .I, .I, .S, .I] As := fun a b c d e => [aV [.s a, .n b, .n c, .s d], aI e]
def k135 : Fn [.I] Res := fun a => ⟨[aI a], []⟩
def sp135 := spf A135 k135 (ct _) U135.v
theorem ok135 : FnOk Tryz.prog T 135 sp135 := ft (E := E135) call_nil Tryz.func135 U135.b fun (a0, a1, a2, a3, a4, _) => U135.b_eq _ a0 a1 a2 a3 a4

def E44 := en [(135, sp135)] [(5, [0, 1, 4, 5])]
def A44 : Fn [.R, .I] As := fun a b => [aH 157 a, aI b]
def k44 : Fn [.I] Res := fun a => ⟨[aI a], []⟩
def T44_5 : Fn [.R, .I, .I, .I] Tb := fun a b c d => [cH 0 157 a, cI 2 b, cI 8 c, cI 10 d]
def L44_5 (N : Nat) {R : Type} (K : Kt R) := U44.l5 N (J T44_5 .ret K) (J T44_5 (.exit 0) K)
def it44 (N : Nat) {R : Type} : It R := (lp 5 (al T44_5 (fun K => L44_5 N K N) an) ln)
theorem lo44_5 {R : Type} (N : Nat) : LoopOk E44 (it44 N (R := R)) (loopOf Tryz.f44 5) := lq 5 T44_5 (L44_5 N) fun K g => U44.r5 N g (J T44_5 .ret K) (J T44_5 (.exit 0) K)
def sp44 := spf A44 k44 U44.c U44.v
theorem ok44 : FnOk Tryz.prog T 44 sp44 := fq (E := E44) (call_cons ok135 call_nil) Tryz.func44 (it := fun N => it44 N) (fun N => (loops_cons (lo44_5 N) loops_nil)) U44.b U44.vo

def E136 := en [] [(5, [0, 1, 4, 5])]
def A136 : Fn [.R, .I] As := fun a b => [aH 9 a, aI b]
def k136 : Fn [.I] Res := fun a => ⟨[aI a], []⟩
def T136_5 : Fn [.R, .I, .I, .I] Tb := fun a b c d => [cH 0 9 a, cI 2 b, cI 8 c, cI 10 d]
def L136_5 (N : Nat) {R : Type} (K : Kt R) := U136.l5 N (J T136_5 .ret K) (J T136_5 (.exit 0) K)
def it136 (N : Nat) {R : Type} : It R := (lp 5 (al T136_5 (fun K => L136_5 N K N) an) ln)
theorem lo136_5 {R : Type} (N : Nat) : LoopOk E136 (it136 N (R := R)) (loopOf Tryz.f136 5) := lq 5 T136_5 (L136_5 N) fun K g => U136.r5 N g (J T136_5 .ret K) (J T136_5 (.exit 0) K)
def sp136 := spf A136 k136 U136.c U136.v
theorem ok136 : FnOk Tryz.prog T 136 sp136 := fq (E := E136) call_nil Tryz.func136 (it := fun N => it136 N) (fun N => (loops_cons (lo136_5 N) loops_nil)) U136.b U136.vo

def E110 := en [] []
def A110 : Fn [.R, .I] As := fun a b => [aH 3 a, aI b]
def k110 : Fn [.I] Res := fun a => ⟨[aI a], []⟩
def sp110 := spf A110 k110 (ct _) U110.v
theorem ok110 : FnOk Tryz.prog T 110 sp110 := ft (E := E110) call_nil Tryz.func110 U110.b fun (a0, a1, _) => U110.b_eq _ a0 a1

def E214 := en [(110, sp110)] [(5, [0, 1, 4, 5])]
def A214 : Fn [.R, .I] As := fun a b => [aH 59 a, aI b]
def k214 : Fn [.I] Res := fun a => ⟨[aI a], []⟩
def T214_5 : Fn [.R, .I, .I, .I] Tb := fun a b c d => [cH 0 59 a, cI 2 b, cI 8 c, cI 10 d]
def L214_5 (N : Nat) {R : Type} (K : Kt R) := U214.l5 N (J T214_5 .ret K) (J T214_5 (.exit 0) K)
def it214 (N : Nat) {R : Type} : It R := (lp 5 (al T214_5 (fun K => L214_5 N K N) an) ln)
theorem lo214_5 {R : Type} (N : Nat) : LoopOk E214 (it214 N (R := R)) (loopOf Tryz.f214 5) := lq 5 T214_5 (L214_5 N) fun K g => U214.r5 N g (J T214_5 .ret K) (J T214_5 (.exit 0) K)
def sp214 := spf A214 k214 U214.c U214.v
theorem ok214 : FnOk Tryz.prog T 214 sp214 := fq (E := E214) (call_cons ok110 call_nil) Tryz.func214 (it := fun N => it214 N) (fun N => (loops_cons (lo214_5 N) loops_nil)) U214.b U214.vo

def E137 := en [(214, sp214)] []
def A137 : Fn [.R, .I, .I] As := fun a b c => [aV [.sh 59 a, .n b], aI c]
def k137 : Fn [.I] Res := fun a => ⟨[aI a], []⟩
def sp137 := spf A137 k137 U137.c U137.v
theorem ok137 : FnOk Tryz.prog T 137 sp137 := fr (E := E137) (call_cons ok214 call_nil) Tryz.func137 U137.b U137.vo

def E45 := en [(136, sp136), (137, sp137)] []
def A45 : Fn [.R, .R, .R, .I, .I] As := fun a b c d e => [aV [.sh 9 a, .sh 9 b, .sh 59 c, .n d], aI e]
def k45 : Fn [.I] Res := fun a => ⟨[aI a], []⟩
def sp45 := spf A45 k45 U45.c U45.v
theorem ok45 : FnOk Tryz.prog T 45 sp45 := fr (E := E45) (call_cons ok136 (call_cons ok137 call_nil)) Tryz.func45 U45.b U45.vo

def E138 := en [] []
def A138 : Fn [.S, .S, .I, .I, .I, .I] As := fun a b c d e f => [aV [.s a, .s b, .n c, .n d, .n e], aI f]
def k138 : Fn [.I] Res := fun a => ⟨[aI a], []⟩
def sp138 := spf A138 k138 (ct _) U138.v
theorem ok138 : FnOk Tryz.prog T 138 sp138 := ft (E := E138) call_nil Tryz.func138 U138.b fun (a0, a1, a2, a3, a4, a5, _) => U138.b_eq _ a0 a1 a2 a3 a4 a5

def E46 := en [(138, sp138)] [(5, [0, 1, 4, 5])]
def A46 : Fn [.R, .I] As := fun a b => [aH 161 a, aI b]
def k46 : Fn [.I] Res := fun a => ⟨[aI a], []⟩
def T46_5 : Fn [.R, .I, .I, .I] Tb := fun a b c d => [cH 0 161 a, cI 2 b, cI 8 c, cI 10 d]
def L46_5 (N : Nat) {R : Type} (K : Kt R) := U46.l5 N (J T46_5 .ret K) (J T46_5 (.exit 0) K)
def it46 (N : Nat) {R : Type} : It R := (lp 5 (al T46_5 (fun K => L46_5 N K N) an) ln)
theorem lo46_5 {R : Type} (N : Nat) : LoopOk E46 (it46 N (R := R)) (loopOf Tryz.f46 5) := lq 5 T46_5 (L46_5 N) fun K g => U46.r5 N g (J T46_5 .ret K) (J T46_5 (.exit 0) K)
def sp46 := spf A46 k46 U46.c U46.v
theorem ok46 : FnOk Tryz.prog T 46 sp46 := fq (E := E46) (call_cons ok138 call_nil) Tryz.func46 (it := fun N => it46 N) (fun N => (loops_cons (lo46_5 N) loops_nil)) U46.b U46.vo

def E139 := en [] []
def A139 : Fn [.I, .S, .I, .I, .I, .S, .I, .I] As := fun a b c d e f g h => [aV [.n a, .s b, .n c, .n d, .n e, .s f, .n g], aI h]
def k139 : Fn [.I] Res := fun a => ⟨[aI a], []⟩
def sp139 := spf A139 k139 (ct _) U139.v
theorem ok139 : FnOk Tryz.prog T 139 sp139 := ft (E := E139) call_nil Tryz.func139 U139.b fun (a0, a1, a2, a3, a4, a5, a6, a7, _) => U139.b_eq _ a0 a1 a2 a3 a4 a5 a6 a7

def E47 := en [(139, sp139)] [(5, [0, 1, 4, 5])]
def A47 : Fn [.R, .I] As := fun a b => [aH 163 a, aI b]
def k47 : Fn [.I] Res := fun a => ⟨[aI a], []⟩
def T47_5 : Fn [.R, .I, .I, .I] Tb := fun a b c d => [cH 0 163 a, cI 2 b, cI 8 c, cI 10 d]
def L47_5 (N : Nat) {R : Type} (K : Kt R) := U47.l5 N (J T47_5 .ret K) (J T47_5 (.exit 0) K)
def it47 (N : Nat) {R : Type} : It R := (lp 5 (al T47_5 (fun K => L47_5 N K N) an) ln)
theorem lo47_5 {R : Type} (N : Nat) : LoopOk E47 (it47 N (R := R)) (loopOf Tryz.f47 5) := lq 5 T47_5 (L47_5 N) fun K g => U47.r5 N g (J T47_5 .ret K) (J T47_5 (.exit 0) K)
def sp47 := spf A47 k47 U47.c U47.v
theorem ok47 : FnOk Tryz.prog T 47 sp47 := fq (E := E47) (call_cons ok139 call_nil) Tryz.func47 (it := fun N => it47 N) (fun N => (loops_cons (lo47_5 N) loops_nil)) U47.b U47.vo

def E8 := en [(44, sp44), (45, sp45), (46, sp46), (47, sp47)] []
def A8 : Fn [.I, .R, .R, .R, .R, .I, .R, .R, .I, .I] As := fun a b c d e f g h i j => [aV [.n a, .sh 157 b, .sh 9 c, .sh 9 d, .sh 59 e, .n f, .sh 161 g, .sh 163 h, .n i], aI j]
def k8 : Fn [.I] Res := fun a => ⟨[aI a], []⟩
def sp8 := spf A8 k8 U8.c U8.v
theorem ok8 : FnOk Tryz.prog T 8 sp8 := fr (E := E8) (call_cons ok44 (call_cons ok45 (call_cons ok46 (call_cons ok47 call_nil)))) Tryz.func8 U8.b U8.vo

def E235 := en [] []
def A235 : Fn [.S, .S, .I, .I] As := fun a b c d => [aV [.s a, .s b, .n c], aI d]
def k235 : Fn [.I] Res := fun a => ⟨[aI a], []⟩
def sp235 := spf A235 k235 (ct _) U235.v
theorem ok235 : FnOk Tryz.prog T 235 sp235 := ft (E := E235) call_nil Tryz.func235 U235.b fun (a0, a1, a2, a3, _) => U235.b_eq _ a0 a1 a2 a3

def E193 := en [(235, sp235)] [(5, [0, 1, 4, 5])]
def A193 : Fn [.R, .I] As := fun a b => [aH 235 a, aI b]
def k193 : Fn [.I] Res := fun a => ⟨[aI a], []⟩
def T193_5 : Fn [.R, .I, .I, .I] Tb := fun a b c d => [cH 0 235 a, cI 2 b, cI 8 c, cI 10 d]
def L193_5 (N : Nat) {R : Type} (K : Kt R) := U193.l5 N (J T193_5 .ret K) (J T193_5 (.exit 0) K)
def it193 (N : Nat) {R : Type} : It R := (lp 5 (al T193_5 (fun K => L193_5 N K N) an) ln)
theorem lo193_5 {R : Type} (N : Nat) : LoopOk E193 (it193 N (R := R)) (loopOf Tryz.f193 5) := lq 5 T193_5 (L193_5 N) fun K g => U193.r5 N g (J T193_5 .ret K) (J T193_5 (.exit 0) K)
def sp193 := spf A193 k193 U193.c U193.v
theorem ok193 : FnOk Tryz.prog T 193 sp193 := fq (E := E193) (call_cons ok235 call_nil) Tryz.func193 (it := fun N => it193 N) (fun N => (loops_cons (lo193_5 N) loops_nil)) U193.b U193.vo

def E109 := en [(193, sp193)] []
def A109 : Fn [.R, .I] As := fun a b => [aV [.sh 235 a], aI b]
def k109 : Fn [.I] Res := fun a => ⟨[aI a], []⟩
def sp109 := spf A109 k109 U109.c U109.v
theorem ok109 : FnOk Tryz.prog T 109 sp109 := fr (E := E109) (call_cons ok193 call_nil) Tryz.func109 U109.b U109.vo

def E31 := en [(8, sp8), (109, sp109), (110, sp110), (44, sp44)] []
def A31 : Fn [.I, .R, .R, .R, .R, .I, .R, .R, .I, .R, .R, .R, .I] As := fun a b c d e f g h i j k l m => [aV [.n a, .sh 157 b, .sh 9 c, .sh 9 d, .sh 59 e, .n f, .sh 161 g, .sh 163 h, .n i, .sh 235 j, .sh 3 k, .sh 157 l], aI m]
def k31 : Fn [.I] Res := fun a => ⟨[aI a], []⟩
def sp31 := spf A31 k31 U31.c U31.v
theorem ok31 : FnOk Tryz.prog T 31 sp31 := fr (E := E31) (call_cons ok8 (call_cons ok109 (call_cons ok110 (call_cons ok44 call_nil)))) Tryz.func31 U31.b U31.vo

def E149 := en [] []
def A149 : Fn [.S, .I, .I, .S] As := fun a b c d => [aV [.s a, .n b, .n c, .s d]]
def k149 : Fn [.S, .I, .I, .S] Res := fun a b c d => ⟨[aV [.s a, .n b, .n c, .s d]], []⟩
def sp149 := spf A149 k149 (ct _) U149.v
theorem ok149 : FnOk Tryz.prog T 149 sp149 := ft (E := E149) call_nil Tryz.func149 U149.b fun (a0, a1, a2, a3, _) => U149.b_eq _ a0 a1 a2 a3

def E58 := en [(149, sp149)] [(3, [0, 3, 4])]
def A58 : Fn [.R] As := fun a => [aH 157 a]
def k58 : Fn [.R] Res := fun a => ⟨[aO 92 a], []⟩
def T58_3 : Fn [.R, .I, .R] Tb := fun a b c => [cH 0 157 a, cA 6 (.own 0), cI 8 b, oR 1 92 c]
def L58_3 (N : Nat) {R : Type} (K : Kt R) := U58.l3 N (J T58_3 (.exit 0) K)
def it58 (N : Nat) {R : Type} : It R := (lp 3 (al T58_3 (fun K => L58_3 N K N) an) ln)
theorem lo58_3 {R : Type} (N : Nat) : LoopOk E58 (it58 N (R := R)) (loopOf Tryz.f58 3) := lq 3 T58_3 (L58_3 N) fun K g => U58.r3 N g (J T58_3 (.exit 0) K)
def sp58 := spf A58 k58 U58.c U58.v
theorem ok58 : FnOk Tryz.prog T 58 sp58 := fq (E := E58) (call_cons ok149 call_nil) Tryz.func58 (it := fun N => it58 N) (fun N => (loops_cons (lo58_3 N) loops_nil)) U58.b U58.vo

def E150 := en [] [(3, [0, 3, 4])]
def A150 : Fn [.R] As := fun a => [aH 9 a]
def k150 : Fn [.R] Res := fun a => ⟨[aO 9 a], []⟩
def T150_3 : Fn [.R, .I, .R] Tb := fun a b c => [cH 0 9 a, cA 6 (.own 0), cI 8 b, oR 1 9 c]
def L150_3 (N : Nat) {R : Type} (K : Kt R) := U150.l3 N (J T150_3 (.exit 0) K)
def it150 (N : Nat) {R : Type} : It R := (lp 3 (al T150_3 (fun K => L150_3 N K N) an) ln)
theorem lo150_3 {R : Type} (N : Nat) : LoopOk E150 (it150 N (R := R)) (loopOf Tryz.f150 3) := lq 3 T150_3 (L150_3 N) fun K g => U150.r3 N g (J T150_3 (.exit 0) K)
def sp150 := spf A150 k150 U150.c U150.v
theorem ok150 : FnOk Tryz.prog T 150 sp150 := fq (E := E150) call_nil Tryz.func150 (it := fun N => it150 N) (fun N => (loops_cons (lo150_3 N) loops_nil)) U150.b U150.vo

def E117 := en [] [(3, [0, 3, 4])]
def A117 : Fn [.R] As := fun a => [aH 3 a]
def k117 : Fn [.R] Res := fun a => ⟨[aO 3 a], []⟩
def T117_3 : Fn [.R, .I, .R] Tb := fun a b c => [cH 0 3 a, cA 6 (.own 0), cI 8 b, oR 1 3 c]
def L117_3 (N : Nat) {R : Type} (K : Kt R) := U117.l3 N (J T117_3 (.exit 0) K)
def it117 (N : Nat) {R : Type} : It R := (lp 3 (al T117_3 (fun K => L117_3 N K N) an) ln)
theorem lo117_3 {R : Type} (N : Nat) : LoopOk E117 (it117 N (R := R)) (loopOf Tryz.f117 3) := lq 3 T117_3 (L117_3 N) fun K g => U117.r3 N g (J T117_3 (.exit 0) K)
def sp117 := spf A117 k117 U117.c U117.v
theorem ok117 : FnOk Tryz.prog T 117 sp117 := fh (E := E117) call_nil Tryz.func117 (it := fun N => it117 N) (fun N => (loops_cons (lo117_3 N) loops_nil)) U117.b fun x f h => U117.b_eq _ x.1 h

def E216 := en [(117, sp117)] [(3, [0, 3, 4])]
def A216 : Fn [.R] As := fun a => [aH 59 a]
def k216 : Fn [.R] Res := fun a => ⟨[aO 59 a], []⟩
def T216_3 : Fn [.R, .I, .R] Tb := fun a b c => [cH 0 59 a, cA 6 (.own 999), cI 8 b, oR 1999 59 c]
def L216_3 (N : Nat) {R : Type} (K : Kt R) := U216.l3 N (J T216_3 (.exit 0) K)
def it216 (N : Nat) {R : Type} : It R := (lp 3 (al T216_3 (fun K => L216_3 N K N) an) ln)
theorem lo216_3 {R : Type} (N : Nat) : LoopOk E216 (it216 N (R := R)) (loopOf Tryz.f216 3) := lq 3 T216_3 (L216_3 N) fun K g => U216.r3 N g (J T216_3 (.exit 0) K)
def sp216 := spf A216 k216 U216.c U216.v
theorem ok216 : FnOk Tryz.prog T 216 sp216 := fq (E := E216) (call_cons ok117 call_nil) Tryz.func216 (it := fun N => it216 N) (fun N => (loops_cons (lo216_3 N) loops_nil)) U216.b U216.vo

def E151 := en [(216, sp216)] []
def A151 : Fn [.R, .I] As := fun a b => [aV [.sh 59 a, .n b]]
def k151 : Fn [.R, .I] Res := fun a b => ⟨[aV [.ow 59 true a, .n b]], []⟩
def sp151 := spf A151 k151 U151.c U151.v
theorem ok151 : FnOk Tryz.prog T 151 sp151 := fr (E := E151) (call_cons ok216 call_nil) Tryz.func151 U151.b U151.vo

def E59 := en [(150, sp150), (151, sp151)] []
def A59 : Fn [.R, .R, .R, .I] As := fun a b c d => [aV [.sh 9 a, .sh 9 b, .sh 59 c, .n d]]
def k59 : Fn [.R, .R, .R, .I] Res := fun a b c d => ⟨[aV [.ow 9 true a, .ow 9 true b, .ow 59 true c, .n d]], []⟩
def sp59 := spf A59 k59 U59.c U59.v
theorem ok59 : FnOk Tryz.prog T 59 sp59 := fr (E := E59) (call_cons ok150 (call_cons ok151 call_nil)) Tryz.func59 U59.b U59.vo

def E152 := en [] []
def A152 : Fn [.S, .S, .I, .I, .I] As := fun a b c d e => [aV [.s a, .s b, .n c, .n d, .n e]]
def k152 : Fn [.S, .S, .I, .I, .I] Res := fun a b c d e => ⟨[aV [.s a, .s b, .n c, .n d, .n e]], []⟩
def sp152 := spf A152 k152 (ct _) U152.v
theorem ok152 : FnOk Tryz.prog T 152 sp152 := ft (E := E152) call_nil Tryz.func152 U152.b fun (a0, a1, a2, a3, a4, _) => U152.b_eq _ a0 a1 a2 a3 a4

def E60 := en [(152, sp152)] [(3, [0, 3, 4])]
def A60 : Fn [.R] As := fun a => [aH 161 a]
def k60 : Fn [.R] Res := fun a => ⟨[aO 100 a], []⟩
def T60_3 : Fn [.R, .I, .R] Tb := fun a b c => [cH 0 161 a, cA 6 (.own 0), cI 8 b, oR 1 100 c]
def L60_3 (N : Nat) {R : Type} (K : Kt R) := U60.l3 N (J T60_3 (.exit 0) K)
def it60 (N : Nat) {R : Type} : It R := (lp 3 (al T60_3 (fun K => L60_3 N K N) an) ln)
theorem lo60_3 {R : Type} (N : Nat) : LoopOk E60 (it60 N (R := R)) (loopOf Tryz.f60 3) := lq 3 T60_3 (L60_3 N) fun K g => U60.r3 N g (J T60_3 (.exit 0) K)
def sp60 := spf A60 k60 U60.c U60.v
theorem ok60 : FnOk Tryz.prog T 60 sp60 := fq (E := E60) (call_cons ok152 call_nil) Tryz.func60 (it := fun N => it60 N) (fun N => (loops_cons (lo60_3 N) loops_nil)) U60.b U60.vo

def E153 := en [] []
def A153 : Fn [.I, .S, .I, .I, .I, .S, .I] As := fun a b c d e f g => [aV [.n a, .s b, .n c, .n d, .n e, .s f, .n g]]
def k153 : Fn [.I, .S, .I, .I, .I, .S, .I] Res := fun a b c d e f g => ⟨[aV [.n a, .s b, .n c, .n d, .n e, .s f, .n g]], []⟩
def sp153 := spf A153 k153 (ct _) U153.v
theorem ok153 : FnOk Tryz.prog T 153 sp153 := ft (E := E153) call_nil Tryz.func153 U153.b fun (a0, a1, a2, a3, a4, a5, a6, _) => U153.b_eq _ a0 a1 a2 a3 a4 a5 a6

def E61 := en [(153, sp153)] [(3, [0, 3, 4])]
def A61 : Fn [.R] As := fun a => [aH 163 a]
def k61 : Fn [.R] Res := fun a => ⟨[aO 53 a], []⟩
def T61_3 : Fn [.R, .I, .R] Tb := fun a b c => [cH 0 163 a, cA 6 (.own 0), cI 8 b, oR 1 53 c]
def L61_3 (N : Nat) {R : Type} (K : Kt R) := U61.l3 N (J T61_3 (.exit 0) K)
def it61 (N : Nat) {R : Type} : It R := (lp 3 (al T61_3 (fun K => L61_3 N K N) an) ln)
theorem lo61_3 {R : Type} (N : Nat) : LoopOk E61 (it61 N (R := R)) (loopOf Tryz.f61 3) := lq 3 T61_3 (L61_3 N) fun K g => U61.r3 N g (J T61_3 (.exit 0) K)
def sp61 := spf A61 k61 U61.c U61.v
theorem ok61 : FnOk Tryz.prog T 61 sp61 := fq (E := E61) (call_cons ok153 call_nil) Tryz.func61 (it := fun N => it61 N) (fun N => (loops_cons (lo61_3 N) loops_nil)) U61.b U61.vo

def E10 := en [(58, sp58), (59, sp59), (60, sp60), (61, sp61)] []
def A10 : Fn [.I, .R, .R, .R, .R, .I, .R, .R, .I] As := fun a b c d e f g h i => [aV [.n a, .sh 157 b, .sh 9 c, .sh 9 d, .sh 59 e, .n f, .sh 161 g, .sh 163 h, .n i]]
def k10 : Fn [.I, .R, .R, .R, .R, .I, .R, .R, .I] Res := fun a b c d e f g h i => ⟨[aV [.n a, .ow 92 true b, .ow 9 true c, .ow 9 true d, .ow 59 true e, .n f, .ow 100 true g, .ow 53 true h, .n i]], []⟩
def sp10 := spf A10 k10 U10.c U10.v
theorem ok10 : FnOk Tryz.prog T 10 sp10 := fr (E := E10) (call_cons ok58 (call_cons ok59 (call_cons ok60 (call_cons ok61 call_nil)))) Tryz.func10 U10.b U10.vo

def E243 := en [] []
def A243 : Fn [.S, .S, .I] As := fun a b c => [aV [.s a, .s b, .n c]]
def k243 : Fn [.S, .S, .I] Res := fun a b c => ⟨[aV [.s a, .s b, .n c]], []⟩
def sp243 := spf A243 k243 (ct _) U243.v
theorem ok243 : FnOk Tryz.prog T 243 sp243 := ft (E := E243) call_nil Tryz.func243 U243.b fun (a0, a1, a2, _) => U243.b_eq _ a0 a1 a2

def E200 := en [(243, sp243)] [(3, [0, 3, 4])]
def A200 : Fn [.R] As := fun a => [aH 235 a]
def k200 : Fn [.R] Res := fun a => ⟨[aO 236 a], []⟩
def T200_3 : Fn [.R, .I, .R] Tb := fun a b c => [cH 0 235 a, cA 6 (.own 0), cI 8 b, oR 1 236 c]
def L200_3 (N : Nat) {R : Type} (K : Kt R) := U200.l3 N (J T200_3 (.exit 0) K)
def it200 (N : Nat) {R : Type} : It R := (lp 3 (al T200_3 (fun K => L200_3 N K N) an) ln)
theorem lo200_3 {R : Type} (N : Nat) : LoopOk E200 (it200 N (R := R)) (loopOf Tryz.f200 3) := lq 3 T200_3 (L200_3 N) fun K g => U200.r3 N g (J T200_3 (.exit 0) K)
def sp200 := spf A200 k200 U200.c U200.v
theorem ok200 : FnOk Tryz.prog T 200 sp200 := fq (E := E200) (call_cons ok243 call_nil) Tryz.func200 (it := fun N => it200 N) (fun N => (loops_cons (lo200_3 N) loops_nil)) U200.b U200.vo

def E116 := en [(200, sp200)] []
def A116 : Fn [.R] As := fun a => [aV [.sh 235 a]]
def k116 : Fn [.R] Res := fun a => ⟨[aV [.ow 236 true a]], []⟩
def sp116 := spf A116 k116 U116.c U116.v
theorem ok116 : FnOk Tryz.prog T 116 sp116 := fr (E := E116) (call_cons ok200 call_nil) Tryz.func116 U116.b U116.vo

def E33 := en [(10, sp10), (116, sp116), (117, sp117), (58, sp58)] []
def A33 : Fn [.I, .R, .R, .R, .R, .I, .R, .R, .I, .R, .R, .R] As := fun a b c d e f g h i j k l => [aV [.n a, .sh 157 b, .sh 9 c, .sh 9 d, .sh 59 e, .n f, .sh 161 g, .sh 163 h, .n i, .sh 235 j, .sh 3 k, .sh 157 l]]
def k33 : Fn [.I, .R, .R, .R, .R, .I, .R, .R, .I, .R, .R, .R] Res := fun a b c d e f g h i j k l => ⟨[aV [.n a, .ow 92 true b, .ow 9 true c, .ow 9 true d, .ow 59 true e, .n f, .ow 100 true g, .ow 53 true h, .n i, .ow 236 true j, .ow 3 true k, .ow 92 true l]], []⟩
def sp33 := spf A33 k33 U33.c U33.v
theorem ok33 : FnOk Tryz.prog T 33 sp33 := fr (E := E33) (call_cons ok10 (call_cons ok116 (call_cons ok117 (call_cons ok58 call_nil)))) Tryz.func33 U33.b U33.vo

def E49 := en [] []
def A49 : Fn [.I, .I, .I] As := fun a b c => [aI a, aI b, aI c]
def k49 : Fn [.B] Res := fun a => ⟨[aB a], []⟩
def sp49 := spf A49 k49 (ct _) U49.v
theorem ok49 : FnOk Tryz.prog T 49 sp49 := ft (E := E49) call_nil Tryz.func49 U49.b fun (a0, a1, a2, _) => U49.b_eq _ a0 a1 a2

def E236 := en [(49, sp49)] []
def A236 : Fn [.S] As := fun a => [aS a]
def k236 : Fn [.B] Res := fun a => ⟨[aB a], []⟩
def sp236 := spf A236 k236 (ct _) U236.v
theorem ok236 : FnOk Tryz.prog T 236 sp236 := ft (E := E236) (call_cons ok49 call_nil) Tryz.func236 U236.b fun (a0, _) => U236.b_eq _ a0

def E194 := en [(236, sp236), (49, sp49)] [(4, [1, 2, 3])]
def A194 : Fn [.R] As := fun a => [aV [.sh 236 a]]
def k194 : Fn [.B] Res := fun a => ⟨[aB a], []⟩
def T194_4 : Fn [.B, .I, .R] Tb := fun a b c => [cP 2 0, cA 4 (.b a), cI 6 b, oB 1 [.sh 236 c]]
def L194_4 (N : Nat) {R : Type} (K : Kt R) := U194.l4 N (J T194_4 .ret K) (J T194_4 (.exit 0) K)
def it194 (N : Nat) {R : Type} : It R := (lp 4 (al T194_4 (fun K => L194_4 N K N) an) ln)
theorem lo194_4 {R : Type} (N : Nat) : LoopOk E194 (it194 N (R := R)) (loopOf Tryz.f194 4) := lq 4 T194_4 (L194_4 N) fun K g => U194.r4 N g (J T194_4 .ret K) (J T194_4 (.exit 0) K)
def sp194 := spf A194 k194 U194.c U194.v
theorem ok194 : FnOk Tryz.prog T 194 sp194 := fq (E := E194) (call_cons ok236 (call_cons ok49 call_nil)) Tryz.func194 (it := fun N => it194 N) (fun N => (loops_cons (lo194_4 N) loops_nil)) U194.b U194.vo

def E237 := en [] [(2, [1, 2, 4, 5])]
def A237 : Fn [.R, .S] As := fun a b => [aV [.sh 236 a], aS b]
def k237 : Fn [.I] Res := fun a => ⟨[aI a], []⟩
def T237_2 : Fn [.S, .I, .I, .R] Tb := fun a b c d => [cA 2 (.s a), cP 4 0, cI 8 b, cI 10 c, oB 1 [.sh 236 d]]
def L237_2 (N : Nat) {R : Type} (K : Kt R) := U237.l2 N (J T237_2 .ret K) (J T237_2 (.exit 0) K)
def it237 (N : Nat) {R : Type} : It R := (lp 2 (al T237_2 (fun K => L237_2 N K N) an) ln)
theorem lo237_2 {R : Type} (N : Nat) : LoopOk E237 (it237 N (R := R)) (loopOf Tryz.f237 2) := lq 2 T237_2 (L237_2 N) fun K g => U237.r2 N g (J T237_2 .ret K) (J T237_2 (.exit 0) K)
def sp237 := spf A237 k237 U237.c U237.v
theorem ok237 : FnOk Tryz.prog T 237 sp237 := fq (E := E237) call_nil Tryz.func237 (it := fun N => it237 N) (fun N => (loops_cons (lo237_2 N) loops_nil)) U237.b U237.vo

def E195 := en [(237, sp237)] []
def A195 : Fn [.R, .S] As := fun a b => [aV [.sh 236 a], aS b]
def k195 : Fn [.S, .B] Res := fun a b => ⟨[aS a, aB b], []⟩
def sp195 := spf A195 k195 U195.c U195.v
theorem ok195 : FnOk Tryz.prog T 195 sp195 := fr (E := E195) (call_cons ok237 call_nil) Tryz.func195 U195.b U195.vo

def E264 := en [] [(2, [0, 3])]
def A264 : Fn [.I] As := fun a => [aI a]
def k264 : Fn [.S] Res := fun a => ⟨[aS a], []⟩
def T264_2 : Fn [.I, .R] Tb := fun a b => [cI 0 a, cA 6 (.own 0), oR 1 5 b]
def L264_2 (N : Nat) {R : Type} (K : Kt R) := U264.l2 N (J T264_2 (.exit 0) K)
def it264 (N : Nat) {R : Type} : It R := (lp 2 (al T264_2 (fun K => L264_2 N K N) an) ln)
theorem lo264_2 {R : Type} (N : Nat) : LoopOk E264 (it264 N (R := R)) (loopOf Tryz.f264 2) := lq 2 T264_2 (L264_2 N) fun K g => U264.r2 N g (J T264_2 (.exit 0) K)
def sp264 := spf A264 k264 U264.c U264.v
theorem ok264 : FnOk Tryz.prog T 264 sp264 := fh (E := E264) call_nil Tryz.func264 (it := fun N => it264 N) (fun N => (loops_cons (lo264_2 N) loops_nil)) U264.b fun x f h => U264.b_eq _ x.1 h

def E238 := en [(49, sp49), (264, sp264)] [(6, [0, 1, 4, 5, 6, 7, 8, 9])]
def A238 : Fn [.S, .I] As := fun a b => [aS a, aI b]
def k238 : Fn [.I, .I, .B] Res := fun a b c => ⟨[aI a, aI b, aB c], []⟩
def T238_6 : Fn [.S, .I, .I, .I, .B, .I, .I, .I] Tb := fun a b c d e f g h => [cA 0 (.s a), cI 2 b, cI 8 c, cI 10 d, cA 12 (.b e), cI 14 f, cI 16 g, cI 18 h]
def L238_6 (N : Nat) {R : Type} (K : Kt R) := U238.l6 N (J T238_6 .ret K) (J T238_6 (.exit 0) K)
def it238 (N : Nat) {R : Type} : It R := (lp 6 (al T238_6 (fun K => L238_6 N K N) an) ln)
theorem lo238_6 {R : Type} (N : Nat) : LoopOk E238 (it238 N (R := R)) (loopOf Tryz.f238 6) := lq 6 T238_6 (L238_6 N) fun K g => U238.r6 N g (J T238_6 .ret K) (J T238_6 (.exit 0) K)
def sp238 := spf A238 k238 (ct _) U238.v
theorem ok238 : FnOk Tryz.prog T 238 sp238 := fh (E := E238) (call_cons ok49 (call_cons ok264 call_nil)) Tryz.func238 (it := fun N => it238 N) (fun N => (loops_cons (lo238_6 N) loops_nil)) U238.b fun x f h => U238.b_eq _ x.1 x.2.1 f.1.1

def E250 := en [] [(2, [0, 1, 5]), (6, [0, 1, 5, 6])]
def A250 : Fn [.I, .S] As := fun a b => [.v false [.i .u32 a], aS b]
def k250 : Fn [.I] Res := fun a => ⟨[.v false [.i .u32 a]], []⟩
def T250_2 : Fn [.I, .S, .I] Tb := fun a b c => [cA 0 (.i .u32 a), cA 2 (.s b), cI 10 c]
def T250_6 : Fn [.I, .S, .I, .I] Tb := fun a b c d => [cA 0 (.i .u32 a), cA 2 (.s b), cI 10 c, cI 12 d]
def L250_2 (N : Nat) {R : Type} (K : Kt R) := U250.l2 N (J T250_2 (.exit 0) K)
def L250_6 (N : Nat) {R : Type} (K : Kt R) := U250.l6 N (J T250_6 (.exit 2) K)
def it250 (N : Nat) {R : Type} : It R := (lp 2 (al T250_2 (fun K => L250_2 N K N) an) (lp 6 (al T250_6 (fun K => L250_6 N K N) an) ln))
theorem lo250_2 {R : Type} (N : Nat) : LoopOk E250 (it250 N (R := R)) (loopOf Tryz.f250 2) := lq 2 T250_2 (L250_2 N) fun K g => U250.r2 N g (J T250_2 (.exit 0) K)
theorem lo250_6 {R : Type} (N : Nat) : LoopOk E250 (it250 N (R := R)) (loopOf Tryz.f250 6) := lq 6 T250_6 (L250_6 N) fun K g => U250.r6 N g (J T250_6 (.exit 2) K)
def sp250 := spf A250 k250 U250.c U250.v
theorem ok250 : FnOk Tryz.prog T 250 sp250 := fq (E := E250) call_nil Tryz.func250 (it := fun N => it250 N) (fun N => (loops_cons (lo250_2 N) (loops_cons (lo250_6 N) loops_nil))) U250.b U250.vo

def E215 := en [(250, sp250)] []
def A215 : Fn [.S] As := fun a => [aS a]
def k215 : Fn [.I] Res := fun a => ⟨[.v false [.i .u32 a]], []⟩
def sp215 := spf A215 k215 U215.c U215.v
theorem ok215 : FnOk Tryz.prog T 215 sp215 := fr (E := E215) (call_cons ok250 call_nil) Tryz.func215 U215.b U215.vo

def E265 := en [] []
def A265 : Fn [.I] As := fun a => [.v false [.i .u32 a]]
def k265 : Fn [.S] Res := fun a => ⟨[aS a], []⟩
def sp265 := spf A265 k265 (ct _) U265.v
theorem ok265 : FnOk Tryz.prog T 265 sp265 := ft (E := E265) call_nil Tryz.func265 U265.b fun (a0, _) => U265.b_eq _ a0

def E239 := en [(49, sp49), (264, sp264), (215, sp215), (265, sp265)] []
def A239 : Fn [.S] As := fun a => [aS a]
def k239 : Fn [.S, .B] Res := fun a b => ⟨[aS a, aB b], []⟩
def sp239 := spf A239 k239 U239.c U239.v
theorem ok239 : FnOk Tryz.prog T 239 sp239 := fr (E := E239) (call_cons ok49 (call_cons ok264 (call_cons ok215 (call_cons ok265 call_nil)))) Tryz.func239 U239.b U239.vo

def E196 := en [(238, sp238), (239, sp239)] [(5, [0, 2, 3, 4, 5])]
def A196 : Fn [.S] As := fun a => [aS a]
def k196 : Fn [.R, .I] Res := fun a b => ⟨[aO 9 a, aI b], []⟩
def T196_5 : Fn [.S, .I, .I, .R] Tb := fun a b c d => [cA 0 (.s a), cA 4 .nl, cI 6 b, cA 8 (.own 0), cI 10 c, oR 1 9 d]
def Y196_5_0 : Fn [.S, .I, .I, .R] Tb := fun a b c d => [cA 0 (.s a), cA 4 (.own 0), cI 6 b, cA 8 (.own 0), cI 10 c, oR 1 9 d]
def L196_5 (N : Nat) {R : Type} (K : Kt R) := U196.l5 N (J Y196_5_0 .ret K) (J T196_5 (.exit 0) K)
def it196 (N : Nat) {R : Type} : It R := (lp 5 (al T196_5 (fun K => L196_5 N K N) an) ln)
theorem lo196_5 {R : Type} (N : Nat) : LoopOk E196 (it196 N (R := R)) (loopOf Tryz.f196 5) := lq 5 T196_5 (L196_5 N) fun K g => U196.r5 N g (J Y196_5_0 .ret K) (J T196_5 (.exit 0) K)
def sp196 := spf A196 k196 U196.c U196.v
theorem ok196 : FnOk Tryz.prog T 196 sp196 := fq (E := E196) (call_cons ok238 (call_cons ok239 call_nil)) Tryz.func196 (it := fun N => it196 N) (fun N => (loops_cons (lo196_5 N) loops_nil)) U196.b U196.vo

def E240 := en [(238, sp238)] []
def A240 : Fn [.S, .I] As := fun a b => [aS a, aI b]
def k240 : Fn [.S, .I, .B] Res := fun a b c => ⟨[aS a, aI b, aB c], []⟩
def sp240 := spf A240 k240 (ct _) U240.v
theorem ok240 : FnOk Tryz.prog T 240 sp240 := fh (E := E240) (call_cons ok238 call_nil) Tryz.func240 (it := fun _ => ln) (fun _ => loops_nil) (fun _ => U240.b) fun x f h => ⟨0, U240.b_eq _ x.1 x.2.1 f.1.1⟩

def E50 := en [(49, sp49)] []
def A50 : Fn [.S] As := fun a => [aS a]
def k50 : Fn [.B] Res := fun a => ⟨[aB a], []⟩
def sp50 := spf A50 k50 (ct _) U50.v
theorem ok50 : FnOk Tryz.prog T 50 sp50 := ft (E := E50) (call_cons ok49 call_nil) Tryz.func50 U50.b fun (a0, _) => U50.b_eq _ a0

def E141 := en [(50, sp50), (49, sp49)] []
def A141 : Fn [.S, .I, .I, .S] As := fun a b c d => [aV [.s a, .n b, .n c, .s d]]
def k141 : Fn [.B] Res := fun a => ⟨[aB a], []⟩
def sp141 := spf A141 k141 (ct _) U141.v
theorem ok141 : FnOk Tryz.prog T 141 sp141 := ft (E := E141) (call_cons ok50 (call_cons ok49 call_nil)) Tryz.func141 U141.b fun (a0, a1, a2, a3, _) => U141.b_eq _ a0 a1 a2 a3

def E241 := en [(141, sp141), (264, sp264)] []
def A241 : Fn [.S, .I, .I, .S] As := fun a b c d => [aV [.s a, .n b, .n c, .s d]]
def k241 : Fn [.S, .B] Res := fun a b => ⟨[aS a, aB b], []⟩
def sp241 := spf A241 k241 (ct _) U241.v
theorem ok241 : FnOk Tryz.prog T 241 sp241 := fh (E := E241) (call_cons ok141 (call_cons ok264 call_nil)) Tryz.func241 (it := fun _ => ln) (fun _ => loops_nil) (fun _ => U241.b) fun x f h => ⟨0, U241.b_eq _ x.1 x.2.1 x.2.2.1 x.2.2.2.1⟩

def E197 := en [(240, sp240), (238, sp238), (241, sp241)] []
def A197 : Fn [.S] As := fun a => [aS a]
def k197 : Fn [.S, .I, .I, .S, .B] Res := fun a b c d e => ⟨[aV [.s a, .n b, .n c, .s d], aB e], []⟩
def sp197 := spf A197 k197 (ct _) U197.v
theorem ok197 : FnOk Tryz.prog T 197 sp197 := fh (E := E197) (call_cons ok240 (call_cons ok238 (call_cons ok241 call_nil))) Tryz.func197 (it := fun _ => ln) (fun _ => loops_nil) (fun _ => U197.b) fun x f h => ⟨0, U197.b_eq _ x.1 f.1.1⟩

def E198 := en [] [(3, [0, 3, 5, 6]), (9, [0, 3, 5, 7])]
def A198 : Fn [.R, .S, .I, .I, .S] As := fun a b c d e => [aH 92 a, aV [.s b, .n c, .n d, .s e]]
def k198 : Fn [.R] Res := fun a => ⟨[aO 92 a], []⟩
def T198_3 : Fn [.R, .I, .S, .I, .I, .S, .R] Tb := fun a b c d e f g => [cH 0 92 a, cP 6 0, cA 10 (.own 1), cI 12 b, oB 1 [.s c, .n d, .n e, .s f], oR 3 92 g]
def T198_9 : Fn [.R, .I, .S, .I, .I, .S, .R] Tb := fun a b c d e f g => [cH 0 92 a, cP 6 0, cA 10 (.own 1), cI 14 b, oB 1 [.s c, .n d, .n e, .s f], oR 3 92 g]
def L198_3 (N : Nat) {R : Type} (K : Kt R) := U198.l3 N (J T198_3 (.exit 0) K)
def L198_9 (N : Nat) {R : Type} (K : Kt R) := U198.l9 N (J T198_9 (.exit 2) K)
def it198 (N : Nat) {R : Type} : It R := (lp 3 (al T198_3 (fun K => L198_3 N K N) an) (lp 9 (al T198_9 (fun K => L198_9 N K N) an) ln))
theorem lo198_3 {R : Type} (N : Nat) : LoopOk E198 (it198 N (R := R)) (loopOf Tryz.f198 3) := lq 3 T198_3 (L198_3 N) fun K g => U198.r3 N g (J T198_3 (.exit 0) K)
theorem lo198_9 {R : Type} (N : Nat) : LoopOk E198 (it198 N (R := R)) (loopOf Tryz.f198 9) := lq 9 T198_9 (L198_9 N) fun K g => U198.r9 N g (J T198_9 (.exit 2) K)
def sp198 := spf A198 k198 U198.c U198.v
theorem ok198 : FnOk Tryz.prog T 198 sp198 := fq (E := E198) call_nil Tryz.func198 (it := fun N => it198 N) (fun N => (loops_cons (lo198_3 N) (loops_cons (lo198_9 N) loops_nil))) U198.b U198.vo

def E111 := en [(194, sp194), (195, sp195), (196, sp196), (197, sp197), (198, sp198)] [(7, [3, 6, 8])]
def A111 : Fn [.R] As := fun a => [aV [.sh 236 a]]
def k111 : Fn [.R] Res := fun a => ⟨[aO 92 a], []⟩
def T111_7 : Fn [.I, .R, .R] Tb := fun a b c => [cA 6 (.own 0), cA 12 (.own 1), cI 16 a, oR 1 92 b, oR 3 9 c]
def L111_7 (N : Nat) {R : Type} (K : Kt R) := U111.l7 N (J T111_7 (.exit 0) K)
def it111 (N : Nat) {R : Type} : It R := (lp 7 (al T111_7 (fun K => L111_7 N K N) an) ln)
theorem lo111_7 {R : Type} (N : Nat) : LoopOk E111 (it111 N (R := R)) (loopOf Tryz.f111 7) := lq 7 T111_7 (L111_7 N) fun K g => U111.r7 N g (J T111_7 (.exit 0) K)
def sp111 := spf A111 k111 U111.c U111.v
theorem ok111 : FnOk Tryz.prog T 111 sp111 := fq (E := E111) (call_cons ok194 (call_cons ok195 (call_cons ok196 (call_cons ok197 (call_cons ok198 call_nil))))) Tryz.func111 (it := fun N => it111 N) (fun N => (loops_cons (lo111_7 N) loops_nil)) U111.b U111.vo

def E52 := en [(141, sp141), (49, sp49)] []
def A52 : Fn [.S, .I, .I, .S, .I] As := fun a b c d e => [aV [.s a, .n b, .n c, .s d], aI e]
def k52 : Fn [.B] Res := fun a => ⟨[aB a], []⟩
def sp52 := spf A52 k52 (ct _) U52.v
theorem ok52 : FnOk Tryz.prog T 52 sp52 := ft (E := E52) (call_cons ok141 (call_cons ok49 call_nil)) Tryz.func52 U52.b fun (a0, a1, a2, a3, a4, _) => U52.b_eq _ a0 a1 a2 a3 a4

def E112 := en [] [(2, [0, 3, 4, 5])]
def A112 : Fn [.R, .S, .I, .I, .S] As := fun a b c d e => [aH 92 a, aV [.s b, .n c, .n d, .s e]]
def k112 : Fn [.B] Res := fun a => ⟨[aB a], []⟩
def T112_2 : Fn [.R, .B, .I, .S, .I, .I, .S] Tb := fun a b c d e f g => [cH 0 92 a, cP 6 0, cA 8 (.b b), cI 10 c, oB 1 [.s d, .n e, .n f, .s g]]
def L112_2 (N : Nat) {R : Type} (K : Kt R) := U112.l2 N (J T112_2 .ret K) (J T112_2 (.exit 0) K)
def it112 (N : Nat) {R : Type} : It R := (lp 2 (al T112_2 (fun K => L112_2 N K N) an) ln)
theorem lo112_2 {R : Type} (N : Nat) : LoopOk E112 (it112 N (R := R)) (loopOf Tryz.f112 2) := lq 2 T112_2 (L112_2 N) fun K g => U112.r2 N g (J T112_2 .ret K) (J T112_2 (.exit 0) K)
def sp112 := spf A112 k112 U112.c U112.v
theorem ok112 : FnOk Tryz.prog T 112 sp112 := fq (E := E112) call_nil Tryz.func112 (it := fun N => it112 N) (fun N => (loops_cons (lo112_2 N) loops_nil)) U112.b U112.vo

def E143 := en [] [(2, [0, 1, 4, 5])]
def A143 : Fn [.R, .S] As := fun a b => [aH 9 a, aS b]
def k143 : Fn [.B] Res := fun a => ⟨[aB a], []⟩
def T143_2 : Fn [.R, .S, .B, .I] Tb := fun a b c d => [cH 0 9 a, cA 2 (.s b), cA 8 (.b c), cI 10 d]
def L143_2 (N : Nat) {R : Type} (K : Kt R) := U143.l2 N (J T143_2 .ret K) (J T143_2 (.exit 0) K)
def it143 (N : Nat) {R : Type} : It R := (lp 2 (al T143_2 (fun K => L143_2 N K N) an) ln)
theorem lo143_2 {R : Type} (N : Nat) : LoopOk E143 (it143 N (R := R)) (loopOf Tryz.f143 2) := lq 2 T143_2 (L143_2 N) fun K g => U143.r2 N g (J T143_2 .ret K) (J T143_2 (.exit 0) K)
def sp143 := spf A143 k143 U143.c U143.v
theorem ok143 : FnOk Tryz.prog T 143 sp143 := fq (E := E143) call_nil Tryz.func143 (it := fun N => it143 N) (fun N => (loops_cons (lo143_2 N) loops_nil)) U143.b U143.vo

def E213 := en [(143, sp143)] []
def A213 : Fn [.R, .R, .R, .I, .S] As := fun a b c d e => [aV [.sh 9 a, .sh 9 b, .sh 59 c, .n d], aS e]
def k213 : Fn [.B] Res := fun a => ⟨[aB a], []⟩
def sp213 := spf A213 k213 U213.c U213.v
theorem ok213 : FnOk Tryz.prog T 213 sp213 := fr (E := E213) (call_cons ok143 call_nil) Tryz.func213 U213.b U213.vo

def E147 := en [(49, sp49)] [(4, [1, 2, 3]), (9, [1, 2, 3, 4])]
def A147 : Fn [.R, .I] As := fun a b => [aV [.sh 59 a, .n b]]
def k147 : Fn [.B] Res := fun a => ⟨[aB a], []⟩
def T147_4 : Fn [.B, .I, .R, .I] Tb := fun a b c d => [cP 2 0, cA 4 (.b a), cI 6 b, oB 1 [.sh 59 c, .n d]]
def T147_9 : Fn [.B, .I, .I, .R, .I] Tb := fun a b c d e => [cP 2 0, cA 4 (.b a), cI 6 b, cI 8 c, oB 1 [.sh 59 d, .n e]]
def L147_4 (N : Nat) {R : Type} (K : Kt R) := U147.l4 N (J T147_4 .ret K) (J T147_4 (.exit 0) K)
def L147_9 (N : Nat) {R : Type} (K : Kt R) := U147.l9 N (J T147_9 .ret K) (J T147_9 (.exit 2) K)
def it147 (N : Nat) {R : Type} : It R := (lp 4 (al T147_4 (fun K => L147_4 N K N) an) (lp 9 (al T147_9 (fun K => L147_9 N K N) an) ln))
theorem lo147_4 {R : Type} (N : Nat) : LoopOk E147 (it147 N (R := R)) (loopOf Tryz.f147 4) := lq 4 T147_4 (L147_4 N) fun K g => U147.r4 N g (J T147_4 .ret K) (J T147_4 (.exit 0) K)
theorem lo147_9 {R : Type} (N : Nat) : LoopOk E147 (it147 N (R := R)) (loopOf Tryz.f147 9) := lq 9 T147_9 (L147_9 N) fun K g => U147.r9 N g (J T147_9 .ret K) (J T147_9 (.exit 2) K)
def sp147 := spf A147 k147 U147.c U147.v
theorem ok147 : FnOk Tryz.prog T 147 sp147 := fq (E := E147) (call_cons ok49 call_nil) Tryz.func147 (it := fun N => it147 N) (fun N => (loops_cons (lo147_4 N) (loops_cons (lo147_9 N) loops_nil))) U147.b U147.vo

def E142 := en [(50, sp50), (143, sp143), (147, sp147)] [(3, [1, 2, 3, 4])]
def A142 : Fn [.R, .R, .R, .I] As := fun a b c d => [aV [.sh 9 a, .sh 9 b, .sh 59 c, .n d]]
def k142 : Fn [.B] Res := fun a => ⟨[aB a], []⟩
def T142_3 : Fn [.B, .I, .R, .R, .R, .I, .R] Tb := fun a b c d e f g => [cP 2 0, cA 4 (.b a), cA 6 (.own 1), cI 8 b, oB 1 [.sh 9 c, .sh 9 d, .sh 59 e, .n f], oR 3 9 g]
def L142_3 (N : Nat) {R : Type} (K : Kt R) := U142.l3 N (J T142_3 .ret K) (J T142_3 (.exit 0) K)
def it142 (N : Nat) {R : Type} : It R := (lp 3 (al T142_3 (fun K => L142_3 N K N) an) ln)
theorem lo142_3 {R : Type} (N : Nat) : LoopOk E142 (it142 N (R := R)) (loopOf Tryz.f142 3) := lq 3 T142_3 (L142_3 N) fun K g => U142.r3 N g (J T142_3 .ret K) (J T142_3 (.exit 0) K)
def sp142 := spf A142 k142 U142.c U142.v
theorem ok142 : FnOk Tryz.prog T 142 sp142 := fq (E := E142) (call_cons ok50 (call_cons ok143 (call_cons ok147 call_nil))) Tryz.func142 (it := fun N => it142 N) (fun N => (loops_cons (lo142_3 N) loops_nil)) U142.b U142.vo

def E133 := en [(141, sp141), (213, sp213), (142, sp142)] [(2, [1, 2, 3])]
def A133 : Fn [.I, .R, .R, .R, .R, .I, .R, .R, .I] As := fun a b c d e f g h i => [aV [.n a, .sh 92 b, .sh 9 c, .sh 9 d, .sh 59 e, .n f, .sh 100 g, .sh 53 h, .n i]]
def k133 : Fn [.B] Res := fun a => ⟨[aB a], []⟩
def T133_2 : Fn [.B, .I, .I, .R, .R, .R, .R, .I, .R, .R, .I] Tb := fun a b c d e f g h i j k => [cP 2 0, cA 4 (.b a), cI 6 b, oB 1 [.n c, .sh 92 d, .sh 9 e, .sh 9 f, .sh 59 g, .n h, .sh 100 i, .sh 53 j, .n k]]
def L133_2 (N : Nat) {R : Type} (K : Kt R) := U133.l2 N (J T133_2 .ret K) (J T133_2 (.exit 0) K)
def it133 (N : Nat) {R : Type} : It R := (lp 2 (al T133_2 (fun K => L133_2 N K N) an) ln)
theorem lo133_2 {R : Type} (N : Nat) : LoopOk E133 (it133 N (R := R)) (loopOf Tryz.f133 2) := lq 2 T133_2 (L133_2 N) fun K g => U133.r2 N g (J T133_2 .ret K) (J T133_2 (.exit 0) K)
def sp133 := spf A133 k133 U133.c U133.v
theorem ok133 : FnOk Tryz.prog T 133 sp133 := fq (E := E133) (call_cons ok141 (call_cons ok213 (call_cons ok142 call_nil))) Tryz.func133 (it := fun N => it133 N) (fun N => (loops_cons (lo133_2 N) loops_nil)) U133.b U133.vo

def E134 := en [(50, sp50), (49, sp49)] [(5, [1, 2, 4, 5, 6])]
def A134 : Fn [.I, .R, .R, .R, .R, .I, .R, .R, .I, .I] As := fun a b c d e f g h i j => [aV [.n a, .sh 92 b, .sh 9 c, .sh 9 d, .sh 59 e, .n f, .sh 100 g, .sh 53 h, .n i], aI j]
def k134 : Fn [.B] Res := fun a => ⟨[aB a], []⟩
def T134_5 : Fn [.I, .B, .I, .I, .R, .R, .R, .R, .I, .R, .R, .I, .S, .S, .I, .I, .I] Tb := fun a b c d e f g h i j k l m o p q r => [cI 2 a, cP 4 0, cA 8 (.b b), cP 10 1, cI 12 c, oB 1 [.n d, .sh 92 e, .sh 9 f, .sh 9 g, .sh 59 h, .n i, .sh 100 j, .sh 53 k, .n l], oB 3 [.s m, .s o, .n p, .n q, .n r]]
def L134_5 (N : Nat) {R : Type} (K : Kt R) := U134.l5 N (J T134_5 .ret K) (J T134_5 (.exit 0) K)
def it134 (N : Nat) {R : Type} : It R := (lp 5 (al T134_5 (fun K => L134_5 N K N) an) ln)
theorem lo134_5 {R : Type} (N : Nat) : LoopOk E134 (it134 N (R := R)) (loopOf Tryz.f134 5) := lq 5 T134_5 (L134_5 N) fun K g => U134.r5 N g (J T134_5 .ret K) (J T134_5 (.exit 0) K)
def sp134 := spf A134 k134 U134.c U134.v
theorem ok134 : FnOk Tryz.prog T 134 sp134 := fq (E := E134) (call_cons ok50 (call_cons ok49 call_nil)) Tryz.func134 (it := fun N => it134 N) (fun N => (loops_cons (lo134_5 N) loops_nil)) U134.b U134.vo

def E43 := en [(49, sp49), (133, sp133), (134, sp134), (50, sp50)] [(4, [1, 2, 3]), (9, [1, 2, 4])]
def A43 : Fn [.I, .R, .R, .R, .R, .I, .R, .R, .I] As := fun a b c d e f g h i => [aV [.n a, .sh 92 b, .sh 9 c, .sh 9 d, .sh 59 e, .n f, .sh 100 g, .sh 53 h, .n i]]
def k43 : Fn [.B] Res := fun a => ⟨[aB a], []⟩
def T43_4 : Fn [.B, .I, .I, .R, .R, .R, .R, .I, .R, .R, .I] Tb := fun a b c d e f g h i j k => [cP 2 0, cA 4 (.b a), cI 6 b, oB 1 [.n c, .sh 92 d, .sh 9 e, .sh 9 f, .sh 59 g, .n h, .sh 100 i, .sh 53 j, .n k]]
def T43_9 : Fn [.B, .I, .I, .R, .R, .R, .R, .I, .R, .R, .I] Tb := fun a b c d e f g h i j k => [cP 2 0, cA 4 (.b a), cI 8 b, oB 1 [.n c, .sh 92 d, .sh 9 e, .sh 9 f, .sh 59 g, .n h, .sh 100 i, .sh 53 j, .n k]]
def L43_4 (N : Nat) {R : Type} (K : Kt R) := U43.l4 N (J T43_4 .ret K) (J T43_4 (.exit 0) K)
def L43_9 (N : Nat) {R : Type} (K : Kt R) := U43.l9 N (J T43_9 .ret K) (J T43_9 (.exit 2) K)
def it43 (N : Nat) {R : Type} : It R := (lp 4 (al T43_4 (fun K => L43_4 N K N) an) (lp 9 (al T43_9 (fun K => L43_9 N K N) an) ln))
theorem lo43_4 {R : Type} (N : Nat) : LoopOk E43 (it43 N (R := R)) (loopOf Tryz.f43 4) := lq 4 T43_4 (L43_4 N) fun K g => U43.r4 N g (J T43_4 .ret K) (J T43_4 (.exit 0) K)
theorem lo43_9 {R : Type} (N : Nat) : LoopOk E43 (it43 N (R := R)) (loopOf Tryz.f43 9) := lq 9 T43_9 (L43_9 N) fun K g => U43.r9 N g (J T43_9 .ret K) (J T43_9 (.exit 2) K)
def sp43 := spf A43 k43 U43.c U43.v
theorem ok43 : FnOk Tryz.prog T 43 sp43 := fq (E := E43) (call_cons ok49 (call_cons ok133 (call_cons ok134 (call_cons ok50 call_nil)))) Tryz.func43 (it := fun N => it43 N) (fun N => (loops_cons (lo43_4 N) (loops_cons (lo43_9 N) loops_nil))) U43.b U43.vo

def E113 := en [] [(2, [1, 2, 3]), (5, [1, 2, 3, 4])]
def A113 : Fn [.I, .R, .R, .R, .R, .I, .R, .R, .I] As := fun a b c d e f g h i => [aV [.n a, .sh 92 b, .sh 9 c, .sh 9 d, .sh 59 e, .n f, .sh 100 g, .sh 53 h, .n i]]
def k113 : Fn [.B] Res := fun a => ⟨[aB a], []⟩
def T113_2 : Fn [.B, .I, .I, .R, .R, .R, .R, .I, .R, .R, .I] Tb := fun a b c d e f g h i j k => [cP 2 0, cA 4 (.b a), cI 6 b, oB 1 [.n c, .sh 92 d, .sh 9 e, .sh 9 f, .sh 59 g, .n h, .sh 100 i, .sh 53 j, .n k]]
def T113_5 : Fn [.B, .I, .I, .I, .R, .R, .R, .R, .I, .R, .R, .I] Tb := fun a b c d e f g h i j k l => [cP 2 0, cA 4 (.b a), cI 6 b, cI 8 c, oB 1 [.n d, .sh 92 e, .sh 9 f, .sh 9 g, .sh 59 h, .n i, .sh 100 j, .sh 53 k, .n l]]
def L113_2 (N : Nat) {R : Type} (K : Kt R) := U113.l2 N (J T113_2 .ret K) (J T113_2 (.exit 0) K)
def L113_5 (N : Nat) {R : Type} (K : Kt R) := U113.l5 N (J T113_5 .ret K) (J T113_5 (.exit 2) K)
def it113 (N : Nat) {R : Type} : It R := (lp 2 (al T113_2 (fun K => L113_2 N K N) an) (lp 5 (al T113_5 (fun K => L113_5 N K N) an) ln))
theorem lo113_2 {R : Type} (N : Nat) : LoopOk E113 (it113 N (R := R)) (loopOf Tryz.f113 2) := lq 2 T113_2 (L113_2 N) fun K g => U113.r2 N g (J T113_2 .ret K) (J T113_2 (.exit 0) K)
theorem lo113_5 {R : Type} (N : Nat) : LoopOk E113 (it113 N (R := R)) (loopOf Tryz.f113 5) := lq 5 T113_5 (L113_5 N) fun K g => U113.r5 N g (J T113_5 .ret K) (J T113_5 (.exit 2) K)
def sp113 := spf A113 k113 U113.c U113.v
theorem ok113 : FnOk Tryz.prog T 113 sp113 := fq (E := E113) call_nil Tryz.func113 (it := fun N => it113 N) (fun N => (loops_cons (lo113_2 N) (loops_cons (lo113_5 N) loops_nil))) U113.b U113.vo

def E242 := en [] []
def A242 : Fn [.S, .S] As := fun a b => [aS a, aS b]
def k242 : Fn [.B] Res := fun a => ⟨[aB a], []⟩
def sp242 := spf A242 k242 U242.c U242.v
theorem ok242 : FnOk Tryz.prog T 242 sp242 := fr (E := E242) call_nil Tryz.func242 U242.b U242.vo

def E199 := en [(49, sp49), (242, sp242)] [(3, [2, 3, 4, 5])]
def A199 : Fn [.I, .R, .R, .R, .R, .I, .R, .R, .I, .R, .R, .R, .I, .S, .I, .I, .I, .S, .I] As := fun a b c d e f g h i j k l m o p q r s t => [aV [.n a, .sh 92 b, .sh 9 c, .sh 9 d, .sh 59 e, .n f, .sh 100 g, .sh 53 h, .n i, .sh 236 j, .sh 3 k, .sh 92 l], aV [.n m, .s o, .n p, .n q, .n r, .s s, .n t]]
def k199 : Fn [.B] Res := fun a => ⟨[aB a], []⟩
def T199_3 : Fn [.B, .I, .I, .R, .R, .R, .R, .I, .R, .R, .I, .R, .R, .R, .I, .S, .I, .I, .I, .S, .I] Tb := fun a b c d e f g h i j k l m o p q r s t u v => [cP 4 0, cP 6 1, cA 8 (.b a), cI 10 b, oB 1 [.n c, .sh 92 d, .sh 9 e, .sh 9 f, .sh 59 g, .n h, .sh 100 i, .sh 53 j, .n k, .sh 236 l, .sh 3 m, .sh 92 o], oB 3 [.n p, .s q, .n r, .n s, .n t, .s u, .n v]]
def L199_3 (N : Nat) {R : Type} (K : Kt R) := U199.l3 N (J T199_3 .ret K) (J T199_3 (.exit 0) K)
def it199 (N : Nat) {R : Type} : It R := (lp 3 (al T199_3 (fun K => L199_3 N K N) an) ln)
theorem lo199_3 {R : Type} (N : Nat) : LoopOk E199 (it199 N (R := R)) (loopOf Tryz.f199 3) := lq 3 T199_3 (L199_3 N) fun K g => U199.r3 N g (J T199_3 .ret K) (J T199_3 (.exit 0) K)
def sp199 := spf A199 k199 U199.c U199.v
theorem ok199 : FnOk Tryz.prog T 199 sp199 := fq (E := E199) (call_cons ok49 (call_cons ok242 call_nil)) Tryz.func199 (it := fun N => it199 N) (fun N => (loops_cons (lo199_3 N) loops_nil)) U199.b U199.vo

def E114 := en [(199, sp199)] [(2, [1, 2, 3])]
def A114 : Fn [.I, .R, .R, .R, .R, .I, .R, .R, .I, .R, .R, .R] As := fun a b c d e f g h i j k l => [aV [.n a, .sh 92 b, .sh 9 c, .sh 9 d, .sh 59 e, .n f, .sh 100 g, .sh 53 h, .n i, .sh 236 j, .sh 3 k, .sh 92 l]]
def k114 : Fn [.B] Res := fun a => ⟨[aB a], []⟩
def T114_2 : Fn [.B, .I, .I, .R, .R, .R, .R, .I, .R, .R, .I, .R, .R, .R] Tb := fun a b c d e f g h i j k l m o => [cP 2 0, cA 4 (.b a), cI 6 b, oB 1 [.n c, .sh 92 d, .sh 9 e, .sh 9 f, .sh 59 g, .n h, .sh 100 i, .sh 53 j, .n k, .sh 236 l, .sh 3 m, .sh 92 o]]
def L114_2 (N : Nat) {R : Type} (K : Kt R) := U114.l2 N (J T114_2 .ret K) (J T114_2 (.exit 0) K)
def it114 (N : Nat) {R : Type} : It R := (lp 2 (al T114_2 (fun K => L114_2 N K N) an) ln)
theorem lo114_2 {R : Type} (N : Nat) : LoopOk E114 (it114 N (R := R)) (loopOf Tryz.f114 2) := lq 2 T114_2 (L114_2 N) fun K g => U114.r2 N g (J T114_2 .ret K) (J T114_2 (.exit 0) K)
def sp114 := spf A114 k114 U114.c U114.v
theorem ok114 : FnOk Tryz.prog T 114 sp114 := fq (E := E114) (call_cons ok199 call_nil) Tryz.func114 (it := fun N => it114 N) (fun N => (loops_cons (lo114_2 N) loops_nil)) U114.b U114.vo

def E115 := en [(112, sp112)] [(2, [1, 2, 3])]
def A115 : Fn [.I, .R, .R, .R, .R, .I, .R, .R, .I, .R, .R, .R] As := fun a b c d e f g h i j k l => [aV [.n a, .sh 92 b, .sh 9 c, .sh 9 d, .sh 59 e, .n f, .sh 100 g, .sh 53 h, .n i, .sh 236 j, .sh 3 k, .sh 92 l]]
def k115 : Fn [.B] Res := fun a => ⟨[aB a], []⟩
def T115_2 : Fn [.B, .I, .I, .R, .R, .R, .R, .I, .R, .R, .I, .R, .R, .R] Tb := fun a b c d e f g h i j k l m o => [cP 2 0, cA 4 (.b a), cI 6 b, oB 1 [.n c, .sh 92 d, .sh 9 e, .sh 9 f, .sh 59 g, .n h, .sh 100 i, .sh 53 j, .n k, .sh 236 l, .sh 3 m, .sh 92 o]]
def L115_2 (N : Nat) {R : Type} (K : Kt R) := U115.l2 N (J T115_2 .ret K) (J T115_2 (.exit 0) K)
def it115 (N : Nat) {R : Type} : It R := (lp 2 (al T115_2 (fun K => L115_2 N K N) an) ln)
theorem lo115_2 {R : Type} (N : Nat) : LoopOk E115 (it115 N (R := R)) (loopOf Tryz.f115 2) := lq 2 T115_2 (L115_2 N) fun K g => U115.r2 N g (J T115_2 .ret K) (J T115_2 (.exit 0) K)
def sp115 := spf A115 k115 U115.c U115.v
theorem ok115 : FnOk Tryz.prog T 115 sp115 := fq (E := E115) (call_cons ok112 call_nil) Tryz.func115 (it := fun N => it115 N) (fun N => (loops_cons (lo115_2 N) loops_nil)) U115.b U115.vo

def E32 := en [(111, sp111), (52, sp52), (112, sp112), (43, sp43), (113, sp113), (114, sp114), (115, sp115)] [(3, [1, 2, 3, 4])]
def A32 : Fn [.I, .R, .R, .R, .R, .I, .R, .R, .I, .R, .R, .R] As := fun a b c d e f g h i j k l => [aV [.n a, .sh 92 b, .sh 9 c, .sh 9 d, .sh 59 e, .n f, .sh 100 g, .sh 53 h, .n i, .sh 236 j, .sh 3 k, .sh 92 l]]
def k32 : Fn [.B] Res := fun a => ⟨[aB a], []⟩
def T32_3 : Fn [.B, .I, .I, .R, .R, .R, .R, .I, .R, .R, .I, .R, .R, .R, .R] Tb := fun a b c d e f g h i j k l m o p => [cP 2 0, cA 4 (.b a), cA 6 (.own 1), cI 8 b, oB 1 [.n c, .sh 92 d, .sh 9 e, .sh 9 f, .sh 59 g, .n h, .sh 100 i, .sh 53 j, .n k, .sh 236 l, .sh 3 m, .sh 92 o], oR 3 92 p]
def L32_3 (N : Nat) {R : Type} (K : Kt R) := U32.l3 N (J T32_3 .ret K) (J T32_3 (.exit 0) K)
def it32 (N : Nat) {R : Type} : It R := (lp 3 (al T32_3 (fun K => L32_3 N K N) an) ln)
theorem lo32_3 {R : Type} (N : Nat) : LoopOk E32 (it32 N (R := R)) (loopOf Tryz.f32 3) := lq 3 T32_3 (L32_3 N) fun K g => U32.r3 N g (J T32_3 .ret K) (J T32_3 (.exit 0) K)
def sp32 := spf A32 k32 U32.c U32.v
theorem ok32 : FnOk Tryz.prog T 32 sp32 := fq (E := E32) (call_cons ok111 (call_cons ok52 (call_cons ok112 (call_cons ok43 (call_cons ok113 (call_cons ok114 (call_cons ok115 call_nil))))))) Tryz.func32 (it := fun N => it32 N) (fun N => (loops_cons (lo32_3 N) loops_nil)) U32.b U32.vo

def E63 := en [] []
def A63 : Fn [.I, .I, .I] As := fun a b c => [aI a, aI b, aI c]
def k63 : Fn [.B] Res := fun a => ⟨[aB a], []⟩
def sp63 := spf A63 k63 (ct _) U63.v
theorem ok63 : FnOk Tryz.prog T 63 sp63 := ft (E := E63) call_nil Tryz.func63 U63.b fun (a0, a1, a2, _) => U63.b_eq _ a0 a1 a2

def E201 := en [(63, sp63)] [(2, [1, 2, 6, 7, 8])]
def A201 : Fn [.R] As := fun a => [aV [.sh 236 a]]
def k201 : Fn [.B] Res := fun a => ⟨[aB a], []⟩
def T201_2 : Fn [.B, .R, .I, .I, .R] Tb := fun a b c d e => [cP 2 0, cA 4 (.b a), cH 12 236 b, cI 14 c, cI 16 d, oB 1 [.sh 236 e]]
def L201_2 (N : Nat) {R : Type} (K : Kt R) := U201.l2 N (J T201_2 .ret K) (J T201_2 (.exit 0) K)
def it201 (N : Nat) {R : Type} : It R := (lp 2 (al T201_2 (fun K => L201_2 N K N) an) ln)
theorem lo201_2 {R : Type} (N : Nat) : LoopOk E201 (it201 N (R := R)) (loopOf Tryz.f201 2) := lq 2 T201_2 (L201_2 N) fun K g => U201.r2 N g (J T201_2 .ret K) (J T201_2 (.exit 0) K)
def sp201 := spf A201 k201 U201.c U201.v
theorem ok201 : FnOk Tryz.prog T 201 sp201 := fq (E := E201) (call_cons ok63 call_nil) Tryz.func201 (it := fun N => it201 N) (fun N => (loops_cons (lo201_2 N) loops_nil)) U201.b U201.vo

def E267 := en [] []
def A267 : Fn [.S, .S, .I, .S] As := fun a b c d => [aV [.s a, .s b, .n c], .fb [.s d]]
def k267 : Fn [.B] Res := fun a => ⟨[aB a], []⟩
def sp267 := spf A267 k267 (ct _) U267.v
theorem ok267 : FnOk Tryz.prog T 267 sp267 := ft (E := E267) call_nil Tryz.func267 U267.b fun (a0, a1, a2, a3, _) => U267.b_eq _ a0 a1 a2 a3

def E266a := en [(267, sp267)] [(2, [0, 1, 4, 7, 8])]
def A266a : Fn [.R, .S] As := fun a b => [aH 236 a, .v false [.fn 267 [[.s b]]]]
def k266a : Fn [.I] Res := fun a => ⟨[aI a], []⟩
def T266a_2 : Fn [.R, .S, .I, .I, .I] Tb := fun a b c d e => [cH 0 236 a, cA 2 (.fn 267 [[.s b]]), cI 8 c, cI 14 d, cI 16 e]
def L266a_2 (N : Nat) {R : Type} (K : Kt R) := U266a.l2 N (J T266a_2 .ret K) (J T266a_2 (.exit 0) K)
def it266a (N : Nat) {R : Type} : It R := (lp 2 (al T266a_2 (fun K => L266a_2 N K N) an) ln)
theorem lo266a_2 {R : Type} (N : Nat) : LoopOk E266a (it266a N (R := R)) (loopOf Tryz.f266 2) := lq 2 T266a_2 (L266a_2 N) fun K g => U266a.r2 N g (J T266a_2 .ret K) (J T266a_2 (.exit 0) K)
def sp266a := spf A266a k266a U266a.c U266a.v
theorem ok266a : FnOk Tryz.prog T 266 sp266a := fq (E := E266a) (call_cons ok267 call_nil) Tryz.func266 (it := fun N => it266a N) (fun N => (loops_cons (lo266a_2 N) loops_nil)) U266a.b U266a.vo

def E244 := en [(266, sp266a)] []
def A244 : Fn [.R, .S] As := fun a b => [aV [.sh 236 a], aS b]
def k244 : Fn [.I] Res := fun a => ⟨[aI a], []⟩
def sp244 := spf A244 k244 U244.c U244.v
theorem ok244 : FnOk Tryz.prog T 244 sp244 := fr (E := E244) (call_cons ok266a call_nil) Tryz.func244 U244.b U244.vo

def E202 := en [(244, sp244)] []
def A202 : Fn [.R, .S] As := fun a b => [aV [.sh 236 a], aS b]
def k202 : Fn [.S, .B] Res := fun a b => ⟨[aS a, aB b], []⟩
def sp202 := spf A202 k202 U202.c U202.v
theorem ok202 : FnOk Tryz.prog T 202 sp202 := fr (E := E202) (call_cons ok244 call_nil) Tryz.func202 U202.b U202.vo

def E245 := en [(63, sp63)] [(5, [0, 1, 4, 5, 6, 7, 8])]
def A245 : Fn [.S, .I] As := fun a b => [aS a, aI b]
def k245 : Fn [.I, .I, .B] Res := fun a b c => ⟨[aI a, aI b, aB c], []⟩
def T245_5 : Fn [.S, .I, .I, .I, .B, .I, .I] Tb := fun a b c d e f g => [cA 0 (.s a), cI 2 b, cI 8 c, cI 10 d, cA 12 (.b e), cI 14 f, cI 16 g]
def L245_5 (N : Nat) {R : Type} (K : Kt R) := U245.l5 N (J T245_5 .ret K) (J T245_5 (.exit 0) K)
def it245 (N : Nat) {R : Type} : It R := (lp 5 (al T245_5 (fun K => L245_5 N K N) an) ln)
theorem lo245_5 {R : Type} (N : Nat) : LoopOk E245 (it245 N (R := R)) (loopOf Tryz.f245 5) := lq 5 T245_5 (L245_5 N) fun K g => U245.r5 N g (J T245_5 .ret K) (J T245_5 (.exit 0) K)
def sp245 := spf A245 k245 (ct _) U245.v
theorem ok245 : FnOk Tryz.prog T 245 sp245 := fh (E := E245) (call_cons ok63 call_nil) Tryz.func245 (it := fun N => it245 N) (fun N => (loops_cons (lo245_5 N) loops_nil)) U245.b fun x f h => U245.b_eq _ x.1 x.2.1 f.1.1

def E253 := en [] [(2, [0, 1, 5]), (6, [0, 1, 5, 19])]
def A253 : Fn [.I, .S] As := fun a b => [.v false [.i .u32 a], aS b]
def k253 : Fn [.I] Res := fun a => ⟨[.v false [.i .u32 a]], []⟩
def T253_2 : Fn [.I, .S, .I] Tb := fun a b c => [cA 0 (.i .u32 a), cA 2 (.s b), cI 10 c]
def T253_6 : Fn [.I, .S, .I, .I] Tb := fun a b c d => [cA 0 (.i .u32 a), cA 2 (.s b), cI 10 c, cI 38 d]
def L253_2 (N : Nat) {R : Type} (K : Kt R) := U253.l2 N (J T253_2 (.exit 0) K)
def L253_6 (N : Nat) {R : Type} (K : Kt R) := U253.l6 N (J T253_6 (.exit 2) K)
def it253 (N : Nat) {R : Type} : It R := (lp 2 (al T253_2 (fun K => L253_2 N K N) an) (lp 6 (al T253_6 (fun K => L253_6 N K N) an) ln))
theorem lo253_2 {R : Type} (N : Nat) : LoopOk E253 (it253 N (R := R)) (loopOf Tryz.f253 2) := lq 2 T253_2 (L253_2 N) fun K g => U253.r2 N g (J T253_2 (.exit 0) K)
theorem lo253_6 {R : Type} (N : Nat) : LoopOk E253 (it253 N (R := R)) (loopOf Tryz.f253 6) := lq 6 T253_6 (L253_6 N) fun K g => U253.r6 N g (J T253_6 (.exit 2) K)
def sp253 := spf A253 k253 U253.c U253.v
theorem ok253 : FnOk Tryz.prog T 253 sp253 := fq (E := E253) call_nil Tryz.func253 (it := fun N => it253 N) (fun N => (loops_cons (lo253_2 N) (loops_cons (lo253_6 N) loops_nil))) U253.b U253.vo

def E224 := en [(253, sp253)] []
def A224 : Fn [.S] As := fun a => [aS a]
def k224 : Fn [.I] Res := fun a => ⟨[.v false [.i .u32 a]], []⟩
def sp224 := spf A224 k224 U224.c U224.v
theorem ok224 : FnOk Tryz.prog T 224 sp224 := fr (E := E224) (call_cons ok253 call_nil) Tryz.func224 U224.b U224.vo

def E246 := en [(224, sp224)] []
def A246 : Fn [.S] As := fun a => [aS a]
def k246 : Fn [.S] Res := fun a => ⟨[aS a], []⟩
def sp246 := spf A246 k246 U246.c U246.v
theorem ok246 : FnOk Tryz.prog T 246 sp246 := fr (E := E246) (call_cons ok224 call_nil) Tryz.func246 U246.b U246.vo

def E203 := en [(245, sp245), (63, sp63), (246, sp246)] [(3, [0, 4, 5])]
def A203 : Fn [.S] As := fun a => [aS a]
def k203 : Fn [.R, .I] Res := fun a b => ⟨[aO 9 a, aI b], []⟩
def T203_3 : Fn [.S, .I, .R] Tb := fun a b c => [cA 0 (.s a), cA 8 (.own 0), cI 10 b, oR 1 9 c]
def L203_3 (N : Nat) {R : Type} (K : Kt R) := U203.l3 N (J T203_3 (.exit 0) K)
def it203 (N : Nat) {R : Type} : It R := (lp 3 (al T203_3 (fun K => L203_3 N K N) an) ln)
theorem lo203_3 {R : Type} (N : Nat) : LoopOk E203 (it203 N (R := R)) (loopOf Tryz.f203 3) := lq 3 T203_3 (L203_3 N) fun K g => U203.r3 N g (J T203_3 (.exit 0) K)
def sp203 := spf A203 k203 U203.c U203.v
theorem ok203 : FnOk Tryz.prog T 203 sp203 := fq (E := E203) (call_cons ok245 (call_cons ok63 (call_cons ok246 call_nil))) Tryz.func203 (it := fun N => it203 N) (fun N => (loops_cons (lo203_3 N) loops_nil)) U203.b U203.vo

def E247 := en [(245, sp245)] []
def A247 : Fn [.S, .I] As := fun a b => [aS a, aI b]
def k247 : Fn [.S, .I, .B] Res := fun a b c => ⟨[aS a, aI b, aB c], []⟩
def sp247 := spf A247 k247 (ct _) U247.v
theorem ok247 : FnOk Tryz.prog T 247 sp247 := fh (E := E247) (call_cons ok245 call_nil) Tryz.func247 (it := fun _ => ln) (fun _ => loops_nil) (fun _ => U247.b) fun x f h => ⟨0, U247.b_eq _ x.1 x.2.1 f.1.1⟩

def E64 := en [(63, sp63)] []
def A64 : Fn [.S] As := fun a => [aS a]
def k64 : Fn [.B] Res := fun a => ⟨[aB a], []⟩
def sp64 := spf A64 k64 (ct _) U64.v
theorem ok64 : FnOk Tryz.prog T 64 sp64 := ft (E := E64) (call_cons ok63 call_nil) Tryz.func64 U64.b fun (a0, _) => U64.b_eq _ a0

def E100 := en [(63, sp63)] []
def A100 : Fn [.I] As := fun a => [aI a]
def k100 : Fn [.B] Res := fun a => ⟨[aB a], []⟩
def sp100 := spf A100 k100 (ct _) U100.v
theorem ok100 : FnOk Tryz.prog T 100 sp100 := ft (E := E100) (call_cons ok63 call_nil) Tryz.func100 U100.b fun (a0, _) => U100.b_eq _ a0

def E158 := en [(64, sp64), (100, sp100), (63, sp63)] []
def A158 : Fn [.S, .I, .I, .S] As := fun a b c d => [aV [.s a, .n b, .n c, .s d]]
def k158 : Fn [.B] Res := fun a => ⟨[aB a], []⟩
def sp158 := spf A158 k158 (ct _) U158.v
theorem ok158 : FnOk Tryz.prog T 158 sp158 := ft (E := E158) (call_cons ok64 (call_cons ok100 (call_cons ok63 call_nil))) Tryz.func158 U158.b fun (a0, a1, a2, a3, _) => U158.b_eq _ a0 a1 a2 a3

def E204 := en [(247, sp247), (245, sp245), (158, sp158)] []
def A204 : Fn [.S] As := fun a => [aS a]
def k204 : Fn [.S, .I, .I, .S, .B] Res := fun a b c d e => ⟨[aV [.s a, .n b, .n c, .s d], aB e], []⟩
def sp204 := spf A204 k204 (ct _) U204.v
theorem ok204 : FnOk Tryz.prog T 204 sp204 := fh (E := E204) (call_cons ok247 (call_cons ok245 (call_cons ok158 call_nil))) Tryz.func204 (it := fun _ => ln) (fun _ => loops_nil) (fun _ => U204.b) fun x f h => ⟨0, U204.b_eq _ x.1 f.1.1⟩

def E154 := en [] []
def A154 : Fn [.R] As := fun a => [aH 92 a]
def k154 : Fn [.R] Res := fun a => ⟨[aO 92 a], []⟩
def sp154 := spf A154 k154 U154.c U154.v
theorem ok154 : FnOk Tryz.prog T 154 sp154 := fr (E := E154) call_nil Tryz.func154 U154.b U154.vo

def E67 := en [] []
def A67 : Fn [.S, .I, .I, .S, .S] As := fun a b c d e => [aV [.s a, .n b, .n c, .s d], .fb [.s e]]
def k67 : Fn [.B] Res := fun a => ⟨[aB a], []⟩
def sp67 := spf A67 k67 (ct _) U67.v
theorem ok67 : FnOk Tryz.prog T 67 sp67 := ft (E := E67) call_nil Tryz.func67 U67.b fun (a0, a1, a2, a3, a4, _) => U67.b_eq _ a0 a1 a2 a3 a4

def E66a := en [(67, sp67)] [(2, [0, 1, 4, 7, 8])]
def A66a : Fn [.R, .S] As := fun a b => [aH 92 a, .v false [.fn 67 [[.s b]]]]
def k66a : Fn [.I] Res := fun a => ⟨[aI a], []⟩
def T66a_2 : Fn [.R, .S, .I, .I, .I] Tb := fun a b c d e => [cH 0 92 a, cA 2 (.fn 67 [[.s b]]), cI 8 c, cI 14 d, cI 16 e]
def L66a_2 (N : Nat) {R : Type} (K : Kt R) := U66a.l2 N (J T66a_2 .ret K) (J T66a_2 (.exit 0) K)
def it66a (N : Nat) {R : Type} : It R := (lp 2 (al T66a_2 (fun K => L66a_2 N K N) an) ln)
theorem lo66a_2 {R : Type} (N : Nat) : LoopOk E66a (it66a N (R := R)) (loopOf Tryz.f66 2) := lq 2 T66a_2 (L66a_2 N) fun K g => U66a.r2 N g (J T66a_2 .ret K) (J T66a_2 (.exit 0) K)
def sp66a := spf A66a k66a U66a.c U66a.v
theorem ok66a : FnOk Tryz.prog T 66 sp66a := fq (E := E66a) (call_cons ok67 call_nil) Tryz.func66 (it := fun N => it66a N) (fun N => (loops_cons (lo66a_2 N) loops_nil)) U66a.b U66a.vo

def E167 := en [] []
def A167 : Fn [.S, .I, .I, .S, .S] As := fun a b c d e => [aV [.s a, .n b, .n c, .s d], .fb [.s e]]
def k167 : Fn [.B] Res := fun a => ⟨[aB a], []⟩
def sp167 := spf A167 k167 (ct _) U167.v
theorem ok167 : FnOk Tryz.prog T 167 sp167 := ft (E := E167) call_nil Tryz.func167 U167.b fun (a0, a1, a2, a3, a4, _) => U167.b_eq _ a0 a1 a2 a3 a4

def E66b := en [(167, sp167)] [(2, [0, 1, 4, 7, 8])]
def A66b : Fn [.R, .S] As := fun a b => [aH 92 a, .v false [.fn 167 [[.s b]]]]
def k66b : Fn [.I] Res := fun a => ⟨[aI a], []⟩
def T66b_2 : Fn [.R, .S, .I, .I, .I] Tb := fun a b c d e => [cH 0 92 a, cA 2 (.fn 167 [[.s b]]), cI 8 c, cI 14 d, cI 16 e]
def L66b_2 (N : Nat) {R : Type} (K : Kt R) := U66b.l2 N (J T66b_2 .ret K) (J T66b_2 (.exit 0) K)
def it66b (N : Nat) {R : Type} : It R := (lp 2 (al T66b_2 (fun K => L66b_2 N K N) an) ln)
theorem lo66b_2 {R : Type} (N : Nat) : LoopOk E66b (it66b N (R := R)) (loopOf Tryz.f66 2) := lq 2 T66b_2 (L66b_2 N) fun K g => U66b.r2 N g (J T66b_2 .ret K) (J T66b_2 (.exit 0) K)
def sp66b := spf A66b k66b U66b.c U66b.v
theorem ok66b : FnOk Tryz.prog T 66 sp66b := fq (E := E66b) (call_cons ok167 call_nil) Tryz.func66 (it := fun N => it66b N) (fun N => (loops_cons (lo66b_2 N) loops_nil)) U66b.b U66b.vo

def E166 := en [(66, sp66a), (66, sp66b), (167, sp167)] [(5, [0, 1, 5, 6])]
def A166 : Fn [.R, .S] As := fun a b => [aO 92 a, .v false [.fn 167 [[.s b]]]]
def k166 : Fn [.R] Res := fun a => ⟨[aO 92 a], [[.nl]]⟩
def T166_5 : Fn [.S, .I, .I, .R] Tb := fun a b c d => [cA 0 (.own 900000000), cA 2 (.fn 167 [[.s a]]), cI 10 b, cI 12 c, oR 1800000001 92 d]
def L166_5 (N : Nat) {R : Type} (K : Kt R) := U166.l5 N (J T166_5 (.exit 0) K)
def it166 (N : Nat) {R : Type} : It R := (lp 5 (al T166_5 (fun K => L166_5 N K N) an) ln)
theorem lo166_5 {R : Type} (N : Nat) : LoopOk E166 (it166 N (R := R)) (loopOf Tryz.f166 5) := lq 5 T166_5 (L166_5 N) fun K g => U166.r5 N g (J T166_5 (.exit 0) K)
def sp166 := spf A166 k166 U166.c U166.v
theorem ok166 : FnOk Tryz.prog T 166 sp166 := fq (E := E166) (call_cons ok66a (call_cons ok66b (call_cons ok167 call_nil))) Tryz.func166 (it := fun N => it166 N) (fun N => (loops_cons (lo166_5 N) loops_nil)) U166.b U166.vo

def E72 := en [(154, sp154), (166, sp166)] []
def A72 : Fn [.R, .S] As := fun a b => [aH 92 a, aS b]
def k72 : Fn [.R] Res := fun a => ⟨[aO 92 a], []⟩
def sp72 := spf A72 k72 U72.c U72.v
theorem ok72 : FnOk Tryz.prog T 72 sp72 := fr (E := E72) (call_cons ok154 (call_cons ok166 call_nil)) Tryz.func72 U72.b U72.vo

def rho234 : Go.Shelf.Ren := ⟨fun n => bif Nat.beq n 22 then 234 else bif Nat.beq n 29 then 262 else 263, fun n => bif Nat.beq n 24 then 34 else bif Nat.beq n 9 then 92 else bif Nat.beq n 3 then 3 else bif Nat.beq n 4 then 4 else n, fun n => n⟩
def sp234 : List Arg -> Option (Bool × Res) := Ins.insSpec 92 48
theorem ins234 : Ins.L Tryz.prog rho234 "slices.Insert[[]loop.example/g00245/impl.Entry,loop.example/g00245/impl.Entry]" 4 where
 mixed := hM
 f22 := Tryz.func234.trans (by kernel_rfl)
 t3 := by kernel_rfl
 a3 := Ins.agg_false (P := Tryz.prog) (t := 3) (d := .int .i64) (by kernel_rfl) rfl
 t4 := by kernel_rfl
 a4 := Ins.agg_false (P := Tryz.prog) (t := 4) (d := .bool) (by kernel_rfl) rfl
 t24 := by kernel_rfl
 a24 := Ins.agg_false (P := Tryz.prog) (t := 34) (d := .slice 92) (by kernel_rfl) rfl
 z9 := Ins.size_of hE (t := 92) (ti := ⟨true, [.s, .i .i64, .i .i64, .s], 48⟩) (by kernel_rfl)
theorem ok234 : FnOk Tryz.prog T 234 sp234 :=
 Ins.insert_ok (e := 92) (te := ⟨true, [.s, .i .i64, .i .i64, .s], 48⟩) (by kernel_rfl) rfl (by kernel_rfl) hE ins234
  (fun args w => run_callFunc_extern (e := Extern.SlicesOverlaps.overlaps #[34, 34] #[4]) Tryz.func262 (by kernel_rfl) (by kernel_rfl) (by kernel_rfl) (by kernel_rfl) args w)
  ⟨_, Tryz.func234, by kernel_rfl, by kernel_rfl⟩

def E192 := en [(72, sp72), (234, sp234)] [(3, [3, 5, 6])]
def A192 : Fn [.R, .S, .I, .I, .S] As := fun a b c d e => [aH 92 a, aV [.s b, .n c, .n d, .s e]]
def k192 : Fn [.R] Res := fun a => ⟨[aO 92 a], []⟩
def T192_3 : Fn [.I, .S, .I, .I, .S, .R] Tb := fun a b c d e f => [cP 6 0, cA 10 (.own 1), cI 12 a, oB 1 [.s b, .n c, .n d, .s e], oR 3 92 f]
def L192_3 (N : Nat) {R : Type} (K : Kt R) := U192.l3 N (J T192_3 (.exit 0) K)
def it192 (N : Nat) {R : Type} : It R := (lp 3 (al T192_3 (fun K => L192_3 N K N) an) ln)
theorem lo192_3 {R : Type} (N : Nat) : LoopOk E192 (it192 N (R := R)) (loopOf Tryz.f192 3) := lq 3 T192_3 (L192_3 N) fun K g => U192.r3 N g (J T192_3 (.exit 0) K)
def sp192 := spf A192 k192 U192.c U192.v
theorem ok192 : FnOk Tryz.prog T 192 sp192 := fq (E := E192) (call_cons ok72 (call_cons ok234 call_nil)) Tryz.func192 (it := fun N => it192 N) (fun N => (loops_cons (lo192_3 N) loops_nil)) U192.b U192.vo

def E118 := en [(201, sp201), (202, sp202), (203, sp203), (204, sp204), (192, sp192)] [(7, [3, 27, 28, 29])]
def A118 : Fn [.R] As := fun a => [aV [.sh 236 a]]
def k118 : Fn [.R] Res := fun a => ⟨[aO 92 a], []⟩
def T118_7 : Fn [.I, .I, .R, .R] Tb := fun a b c d => [cA 6 (.own 0), cA 54 (.own 1), cI 56 a, cI 58 b, oR 1 92 c, oR 3 9 d]
def L118_7 (N : Nat) {R : Type} (K : Kt R) := U118.l7 N (J T118_7 (.exit 0) K)
def it118 (N : Nat) {R : Type} : It R := (lp 7 (al T118_7 (fun K => L118_7 N K N) an) ln)
theorem lo118_7 {R : Type} (N : Nat) : LoopOk E118 (it118 N (R := R)) (loopOf Tryz.f118 7) := lq 7 T118_7 (L118_7 N) fun K g => U118.r7 N g (J T118_7 (.exit 0) K)
def sp118 := spf A118 k118 U118.c U118.v
theorem ok118 : FnOk Tryz.prog T 118 sp118 := fq (E := E118) (call_cons ok201 (call_cons ok202 (call_cons ok203 (call_cons ok204 (call_cons ok192 call_nil))))) Tryz.func118 (it := fun N => it118 N) (fun N => (loops_cons (lo118_7 N) loops_nil)) U118.b U118.vo

def E68 := en [(158, sp158), (100, sp100), (63, sp63)] []
def A68 : Fn [.S, .I, .I, .S, .I] As := fun a b c d e => [aV [.s a, .n b, .n c, .s d], aI e]
def k68 : Fn [.B] Res := fun a => ⟨[aB a], []⟩
def sp68 := spf A68 k68 (ct _) U68.v
theorem ok68 : FnOk Tryz.prog T 68 sp68 := ft (E := E68) (call_cons ok158 (call_cons ok100 (call_cons ok63 call_nil))) Tryz.func68 U68.b fun (a0, a1, a2, a3, a4, _) => U68.b_eq _ a0 a1 a2 a3 a4

def E205 := en [] [(2, [0, 3, 4, 7, 8])]
def A205 : Fn [.R, .S, .I, .I, .S] As := fun a b c d e => [aH 92 a, aV [.s b, .n c, .n d, .s e]]
def k205 : Fn [.I] Res := fun a => ⟨[aI a], []⟩
def T205_2 : Fn [.R, .I, .I, .I, .S, .I, .I, .S] Tb := fun a b c d e f g h => [cH 0 92 a, cP 6 0, cI 8 b, cI 14 c, cI 16 d, oB 1 [.s e, .n f, .n g, .s h]]
def L205_2 (N : Nat) {R : Type} (K : Kt R) := U205.l2 N (J T205_2 .ret K) (J T205_2 (.exit 0) K)
def it205 (N : Nat) {R : Type} : It R := (lp 2 (al T205_2 (fun K => L205_2 N K N) an) ln)
theorem lo205_2 {R : Type} (N : Nat) : LoopOk E205 (it205 N (R := R)) (loopOf Tryz.f205 2) := lq 2 T205_2 (L205_2 N) fun K g => U205.r2 N g (J T205_2 .ret K) (J T205_2 (.exit 0) K)
def sp205 := spf A205 k205 U205.c U205.v
theorem ok205 : FnOk Tryz.prog T 205 sp205 := fq (E := E205) call_nil Tryz.func205 (it := fun N => it205 N) (fun N => (loops_cons (lo205_2 N) loops_nil)) U205.b U205.vo

def E119 := en [(205, sp205)] []
def A119 : Fn [.R, .S, .I, .I, .S] As := fun a b c d e => [aH 92 a, aV [.s b, .n c, .n d, .s e]]
def k119 : Fn [.B] Res := fun a => ⟨[aB a], []⟩
def sp119 := spf A119 k119 U119.c U119.v
theorem ok119 : FnOk Tryz.prog T 119 sp119 := fr (E := E119) (call_cons ok205 call_nil) Tryz.func119 U119.b U119.vo

def E261 := en [] []
def A261 : Fn [.I] As := fun a => [.v false [.nl], aI a]
def k261 : Fn [.R] Res := fun a => ⟨[aO 9 a], []⟩
def sp261 := spf A261 k261 U261.c U261.v
theorem ok261 : FnOk Tryz.prog T 261 sp261 := fr (E := E261) call_nil Tryz.func261 U261.b U261.vo

def E233 := en [(261, sp261)] [(3, [0, 3, 9, 10, 11]), (11, [6, 25, 26, 27])]
def A233 : Fn [.R] As := fun a => [aH 23 a]
def k233 : Fn [.R] Res := fun a => ⟨[aO 9 a], []⟩
def T233_3 : Fn [.R, .I, .R, .I, .I] Tb := fun a b c d e => [cH 0 23 a, cI 6 b, cH 18 23 c, cI 20 d, cI 22 e]
def T233_11 : Fn [.R, .I, .I, .R] Tb := fun a b c d => [cA 12 (.own 0), cH 50 23 a, cI 52 b, cI 54 c, oR 1 9 d]
def L233_3 (N : Nat) {R : Type} (K : Kt R) := U233.l3 N (J T233_3 (.exit 0) K)
def L233_11 (N : Nat) {R : Type} (K : Kt R) := U233.l11 N (J T233_11 (.exit 2) K)
def it233 (N : Nat) {R : Type} : It R := (lp 3 (al T233_3 (fun K => L233_3 N K N) an) (lp 11 (al T233_11 (fun K => L233_11 N K N) an) ln))
theorem lo233_3 {R : Type} (N : Nat) : LoopOk E233 (it233 N (R := R)) (loopOf Tryz.f233 3) := lq 3 T233_3 (L233_3 N) fun K g => U233.r3 N g (J T233_3 (.exit 0) K)
theorem lo233_11 {R : Type} (N : Nat) : LoopOk E233 (it233 N (R := R)) (loopOf Tryz.f233 11) := lq 11 T233_11 (L233_11 N) fun K g => U233.r11 N g (J T233_11 (.exit 2) K)
def sp233 := spf A233 k233 U233.c U233.v
theorem ok233 : FnOk Tryz.prog T 233 sp233 := fq (E := E233) (call_cons ok261 call_nil) Tryz.func233 (it := fun N => it233 N) (fun N => (loops_cons (lo233_3 N) (loops_cons (lo233_11 N) loops_nil))) U233.b U233.vo

def E188 := en [(233, sp233)] []
def A188 : Fn [.R, .R, .R, .I] As := fun a b c d => [aV [.sh 9 a, .sh 9 b, .sh 59 c, .n d]]
def k188 : Fn [.R] Res := fun a => ⟨[aO 9 a], []⟩
def sp188 := spf A188 k188 U188.c U188.v
theorem ok188 : FnOk Tryz.prog T 188 sp188 := fr (E := E188) (call_cons ok233 call_nil) Tryz.func188 U188.b U188.vo

def E218 := en [] [(2, [0, 1, 4, 7, 8])]
def A218 : Fn [.R, .S] As := fun a b => [aH 9 a, aS b]
def k218 : Fn [.I] Res := fun a => ⟨[aI a], []⟩
def T218_2 : Fn [.R, .S, .I, .I, .I] Tb := fun a b c d e => [cH 0 9 a, cA 2 (.s b), cI 8 c, cI 14 d, cI 16 e]
def L218_2 (N : Nat) {R : Type} (K : Kt R) := U218.l2 N (J T218_2 .ret K) (J T218_2 (.exit 0) K)
def it218 (N : Nat) {R : Type} : It R := (lp 2 (al T218_2 (fun K => L218_2 N K N) an) ln)
theorem lo218_2 {R : Type} (N : Nat) : LoopOk E218 (it218 N (R := R)) (loopOf Tryz.f218 2) := lq 2 T218_2 (L218_2 N) fun K g => U218.r2 N g (J T218_2 .ret K) (J T218_2 (.exit 0) K)
def sp218 := spf A218 k218 U218.c U218.v
theorem ok218 : FnOk Tryz.prog T 218 sp218 := fq (E := E218) call_nil Tryz.func218 (it := fun N => it218 N) (fun N => (loops_cons (lo218_2 N) loops_nil)) U218.b U218.vo

def E160 := en [(218, sp218)] []
def A160 : Fn [.R, .S] As := fun a b => [aH 9 a, aS b]
def k160 : Fn [.B] Res := fun a => ⟨[aB a], []⟩
def sp160 := spf A160 k160 U160.c U160.v
theorem ok160 : FnOk Tryz.prog T 160 sp160 := fr (E := E160) (call_cons ok218 call_nil) Tryz.func160 U160.b U160.vo

def E187 := en [(188, sp188), (160, sp160)] []
def A187 : Fn [.R, .R, .R, .I, .S] As := fun a b c d e => [aV [.sh 9 a, .sh 9 b, .sh 59 c, .n d], aS e]
def k187 : Fn [.B] Res := fun a => ⟨[aB a], []⟩
def sp187 := spf A187 k187 U187.c U187.v
theorem ok187 : FnOk Tryz.prog T 187 sp187 := fr (E := E187) (call_cons ok188 (call_cons ok160 call_nil)) Tryz.func187 U187.b U187.vo

def E169 := en [(63, sp63)] [(2, [1, 2, 8, 9, 10]), (5, [1, 2, 4, 8, 9, 10, 14, 15, 16])]
def A169 : Fn [.R, .I] As := fun a b => [aV [.sh 59 a, .n b]]
def k169 : Fn [.B] Res := fun a => ⟨[aB a], []⟩
def T169_2 : Fn [.B, .R, .I, .I, .R, .I] Tb := fun a b c d e f => [cP 2 0, cA 4 (.b a), cH 16 59 b, cI 18 c, cI 20 d, oB 1 [.sh 59 e, .n f]]
def T169_5 : Fn [.B, .R, .R, .I, .I, .R, .I, .I, .R, .I] Tb := fun a b c d e f g h i j => [cP 2 0, cA 4 (.b a), cH 8 3 b, cH 16 59 c, cI 18 d, cI 20 e, cH 28 3 f, cI 30 g, cI 32 h, oB 1 [.sh 59 i, .n j]]
def L169_2 (N : Nat) {R : Type} (K : Kt R) := U169.l2 N (J T169_2 .ret K) (J T169_2 (.exit 0) K)
def L169_5 (N : Nat) {R : Type} (K : Kt R) := U169.l5 N (J T169_5 .ret K) (J T169_5 (.exit 2) K)
def it169 (N : Nat) {R : Type} : It R := (lp 2 (al T169_2 (fun K => L169_2 N K N) an) (lp 5 (al T169_5 (fun K => L169_5 N K N) an) ln))
theorem lo169_2 {R : Type} (N : Nat) : LoopOk E169 (it169 N (R := R)) (loopOf Tryz.f169 2) := lq 2 T169_2 (L169_2 N) fun K g => U169.r2 N g (J T169_2 .ret K) (J T169_2 (.exit 0) K)
theorem lo169_5 {R : Type} (N : Nat) : LoopOk E169 (it169 N (R := R)) (loopOf Tryz.f169 5) := lq 5 T169_5 (L169_5 N) fun K g => U169.r5 N g (J T169_5 .ret K) (J T169_5 (.exit 2) K)
def sp169 := spf A169 k169 U169.c U169.v
theorem ok169 : FnOk Tryz.prog T 169 sp169 := fq (E := E169) (call_cons ok63 call_nil) Tryz.func169 (it := fun N => it169 N) (fun N => (loops_cons (lo169_2 N) (loops_cons (lo169_5 N) loops_nil))) U169.b U169.vo

def E159 := en [(188, sp188), (64, sp64), (160, sp160), (169, sp169)] [(3, [1, 2, 3, 8, 9, 10])]
def A159 : Fn [.R, .R, .R, .I] As := fun a b c d => [aV [.sh 9 a, .sh 9 b, .sh 59 c, .n d]]
def k159 : Fn [.B] Res := fun a => ⟨[aB a], []⟩
def T159_3 : Fn [.B, .I, .I, .R, .R, .R, .I, .R] Tb := fun a b c d e f g h => [cP 2 0, cA 4 (.b a), cA 6 (.own 1), cA 16 (.own 1), cI 18 b, cI 20 c, oB 1 [.sh 9 d, .sh 9 e, .sh 59 f, .n g], oR 3 9 h]
def L159_3 (N : Nat) {R : Type} (K : Kt R) := U159.l3 N (J T159_3 .ret K) (J T159_3 (.exit 0) K)
def it159 (N : Nat) {R : Type} : It R := (lp 3 (al T159_3 (fun K => L159_3 N K N) an) ln)
theorem lo159_3 {R : Type} (N : Nat) : LoopOk E159 (it159 N (R := R)) (loopOf Tryz.f159 3) := lq 3 T159_3 (L159_3 N) fun K g => U159.r3 N g (J T159_3 .ret K) (J T159_3 (.exit 0) K)
def sp159 := spf A159 k159 U159.c U159.v
theorem ok159 : FnOk Tryz.prog T 159 sp159 := fq (E := E159) (call_cons ok188 (call_cons ok64 (call_cons ok160 (call_cons ok169 call_nil)))) Tryz.func159 (it := fun N => it159 N) (fun N => (loops_cons (lo159_3 N) loops_nil)) U159.b U159.vo

def E97 := en [(158, sp158), (187, sp187), (159, sp159), (188, sp188)] [(2, [1, 2, 6, 7, 8])]
def A97 : Fn [.I, .R, .R, .R, .R, .I, .R, .R, .I] As := fun a b c d e f g h i => [aV [.n a, .sh 92 b, .sh 9 c, .sh 9 d, .sh 59 e, .n f, .sh 100 g, .sh 53 h, .n i]]
def k97 : Fn [.B] Res := fun a => ⟨[aB a], []⟩
def T97_2 : Fn [.B, .R, .I, .I, .I, .R, .R, .R, .R, .I, .R, .R, .I] Tb := fun a b c d e f g h i j k l m => [cP 2 0, cA 4 (.b a), cH 12 92 b, cI 14 c, cI 16 d, oB 1 [.n e, .sh 92 f, .sh 9 g, .sh 9 h, .sh 59 i, .n j, .sh 100 k, .sh 53 l, .n m]]
def L97_2 (N : Nat) {R : Type} (K : Kt R) := U97.l2 N (J T97_2 .ret K) (J T97_2 (.exit 0) K)
def it97 (N : Nat) {R : Type} : It R := (lp 2 (al T97_2 (fun K => L97_2 N K N) an) ln)
theorem lo97_2 {R : Type} (N : Nat) : LoopOk E97 (it97 N (R := R)) (loopOf Tryz.f97 2) := lq 2 T97_2 (L97_2 N) fun K g => U97.r2 N g (J T97_2 .ret K) (J T97_2 (.exit 0) K)
def sp97 := spf A97 k97 U97.c U97.v
theorem ok97 : FnOk Tryz.prog T 97 sp97 := fq (E := E97) (call_cons ok158 (call_cons ok187 (call_cons ok159 (call_cons ok188 call_nil)))) Tryz.func97 (it := fun N => it97 N) (fun N => (loops_cons (lo97_2 N) loops_nil)) U97.b U97.vo

def E165 := en [] []
def A165 : Fn [.S, .S, .I, .I, .I, .S] As := fun a b c d e f => [aV [.s a, .s b, .n c, .n d, .n e], .fb [.s f]]
def k165 : Fn [.B] Res := fun a => ⟨[aB a], []⟩
def sp165 := spf A165 k165 (ct _) U165.v
theorem ok165 : FnOk Tryz.prog T 165 sp165 := ft (E := E165) call_nil Tryz.func165 U165.b fun (a0, a1, a2, a3, a4, a5, _) => U165.b_eq _ a0 a1 a2 a3 a4 a5

def E164 := en [(165, sp165)] [(2, [0, 1, 4, 7, 8])]
def A164 : Fn [.R, .S] As := fun a b => [aH 100 a, .v false [.fn 165 [[.s b]]]]
def k164 : Fn [.I] Res := fun a => ⟨[aI a], []⟩
def T164_2 : Fn [.R, .S, .I, .I, .I] Tb := fun a b c d e => [cH 0 100 a, cA 2 (.fn 165 [[.s b]]), cI 8 c, cI 14 d, cI 16 e]
def L164_2 (N : Nat) {R : Type} (K : Kt R) := U164.l2 N (J T164_2 .ret K) (J T164_2 (.exit 0) K)
def it164 (N : Nat) {R : Type} : It R := (lp 2 (al T164_2 (fun K => L164_2 N K N) an) ln)
theorem lo164_2 {R : Type} (N : Nat) : LoopOk E164 (it164 N (R := R)) (loopOf Tryz.f164 2) := lq 2 T164_2 (L164_2 N) fun K g => U164.r2 N g (J T164_2 .ret K) (J T164_2 (.exit 0) K)
def sp164 := spf A164 k164 U164.c U164.v
theorem ok164 : FnOk Tryz.prog T 164 sp164 := fq (E := E164) (call_cons ok165 call_nil) Tryz.func164 (it := fun N => it164 N) (fun N => (loops_cons (lo164_2 N) loops_nil)) U164.b U164.vo

def E71 := en [(164, sp164)] []
def A71 : Fn [.I, .R, .R, .R, .R, .I, .R, .R, .I, .S] As := fun a b c d e f g h i j => [aV [.n a, .sh 92 b, .sh 9 c, .sh 9 d, .sh 59 e, .n f, .sh 100 g, .sh 53 h, .n i], aS j]
def k71 : Fn [.I] Res := fun a => ⟨[aI a], []⟩
def sp71 := spf A71 k71 U71.c U71.v
theorem ok71 : FnOk Tryz.prog T 71 sp71 := fr (E := E71) (call_cons ok164 call_nil) Tryz.func71 U71.b U71.vo

def E120 := en [(71, sp71)] [(2, [1, 2, 6, 7, 8])]
def A120 : Fn [.I, .R, .R, .R, .R, .I, .R, .R, .I] As := fun a b c d e f g h i => [aV [.n a, .sh 92 b, .sh 9 c, .sh 9 d, .sh 59 e, .n f, .sh 100 g, .sh 53 h, .n i]]
def k120 : Fn [.B] Res := fun a => ⟨[aB a], []⟩
def T120_2 : Fn [.B, .R, .I, .I, .I, .R, .R, .R, .R, .I, .R, .R, .I] Tb := fun a b c d e f g h i j k l m => [cP 2 0, cA 4 (.b a), cH 12 100 b, cI 14 c, cI 16 d, oB 1 [.n e, .sh 92 f, .sh 9 g, .sh 9 h, .sh 59 i, .n j, .sh 100 k, .sh 53 l, .n m]]
def L120_2 (N : Nat) {R : Type} (K : Kt R) := U120.l2 N (J T120_2 .ret K) (J T120_2 (.exit 0) K)
def it120 (N : Nat) {R : Type} : It R := (lp 2 (al T120_2 (fun K => L120_2 N K N) an) ln)
theorem lo120_2 {R : Type} (N : Nat) : LoopOk E120 (it120 N (R := R)) (loopOf Tryz.f120 2) := lq 2 T120_2 (L120_2 N) fun K g => U120.r2 N g (J T120_2 .ret K) (J T120_2 (.exit 0) K)
def sp120 := spf A120 k120 U120.c U120.v
theorem ok120 : FnOk Tryz.prog T 120 sp120 := fq (E := E120) (call_cons ok71 call_nil) Tryz.func120 (it := fun N => it120 N) (fun N => (loops_cons (lo120_2 N) loops_nil)) U120.b U120.vo

def E98 := en [(64, sp64), (63, sp63), (120, sp120)] [(2, [1, 2, 6, 7, 8])]
def A98 : Fn [.I, .R, .R, .R, .R, .I, .R, .R, .I] As := fun a b c d e f g h i => [aV [.n a, .sh 92 b, .sh 9 c, .sh 9 d, .sh 59 e, .n f, .sh 100 g, .sh 53 h, .n i]]
def k98 : Fn [.B] Res := fun a => ⟨[aB a], []⟩
def T98_2 : Fn [.B, .R, .I, .I, .I, .R, .R, .R, .R, .I, .R, .R, .I] Tb := fun a b c d e f g h i j k l m => [cP 2 0, cA 4 (.b a), cH 12 100 b, cI 14 c, cI 16 d, oB 1 [.n e, .sh 92 f, .sh 9 g, .sh 9 h, .sh 59 i, .n j, .sh 100 k, .sh 53 l, .n m]]
def L98_2 (N : Nat) {R : Type} (K : Kt R) := U98.l2 N (J T98_2 .ret K) (J T98_2 (.exit 0) K)
def it98 (N : Nat) {R : Type} : It R := (lp 2 (al T98_2 (fun K => L98_2 N K N) an) ln)
theorem lo98_2 {R : Type} (N : Nat) : LoopOk E98 (it98 N (R := R)) (loopOf Tryz.f98 2) := lq 2 T98_2 (L98_2 N) fun K g => U98.r2 N g (J T98_2 .ret K) (J T98_2 (.exit 0) K)
def sp98 := spf A98 k98 U98.c U98.v
theorem ok98 : FnOk Tryz.prog T 98 sp98 := fq (E := E98) (call_cons ok64 (call_cons ok63 (call_cons ok120 call_nil))) Tryz.func98 (it := fun N => it98 N) (fun N => (loops_cons (lo98_2 N) loops_nil)) U98.b U98.vo

def E99 := en [(63, sp63), (64, sp64)] [(2, [1, 2, 6, 7, 8])]
def A99 : Fn [.I, .R, .R, .R, .R, .I, .R, .R, .I] As := fun a b c d e f g h i => [aV [.n a, .sh 92 b, .sh 9 c, .sh 9 d, .sh 59 e, .n f, .sh 100 g, .sh 53 h, .n i]]
def k99 : Fn [.B] Res := fun a => ⟨[aB a], []⟩
def T99_2 : Fn [.B, .R, .I, .I, .I, .R, .R, .R, .R, .I, .R, .R, .I] Tb := fun a b c d e f g h i j k l m => [cP 2 0, cA 4 (.b a), cH 12 53 b, cI 14 c, cI 16 d, oB 1 [.n e, .sh 92 f, .sh 9 g, .sh 9 h, .sh 59 i, .n j, .sh 100 k, .sh 53 l, .n m]]
def L99_2 (N : Nat) {R : Type} (K : Kt R) := U99.l2 N (J T99_2 .ret K) (J T99_2 (.exit 0) K)
def it99 (N : Nat) {R : Type} : It R := (lp 2 (al T99_2 (fun K => L99_2 N K N) an) ln)
theorem lo99_2 {R : Type} (N : Nat) : LoopOk E99 (it99 N (R := R)) (loopOf Tryz.f99 2) := lq 2 T99_2 (L99_2 N) fun K g => U99.r2 N g (J T99_2 .ret K) (J T99_2 (.exit 0) K)
def sp99 := spf A99 k99 U99.c U99.v
theorem ok99 : FnOk Tryz.prog T 99 sp99 := fq (E := E99) (call_cons ok63 (call_cons ok64 call_nil)) Tryz.func99 (it := fun N => it99 N) (fun N => (loops_cons (lo99_2 N) loops_nil)) U99.b U99.vo

def E25 := en [(63, sp63), (97, sp97), (98, sp98), (99, sp99), (100, sp100)] []
def A25 : Fn [.I, .R, .R, .R, .R, .I, .R, .R, .I] As := fun a b c d e f g h i => [aV [.n a, .sh 92 b, .sh 9 c, .sh 9 d, .sh 59 e, .n f, .sh 100 g, .sh 53 h, .n i]]
def k25 : Fn [.B] Res := fun a => ⟨[aB a], []⟩
def sp25 := spf A25 k25 U25.c U25.v
theorem ok25 : FnOk Tryz.prog T 25 sp25 := fr (E := E25) (call_cons ok63 (call_cons ok97 (call_cons ok98 (call_cons ok99 (call_cons ok100 call_nil))))) Tryz.func25 U25.b U25.vo

def E268 := en [] []
def A268 : Fn [.S, .S] As := fun a b => [aS a, aS b]
def k268 : Fn [.B] Res := fun a => ⟨[aB a], []⟩
def sp268 := spf A268 k268 U268.c U268.v
theorem ok268 : FnOk Tryz.prog T 268 sp268 := fr (E := E268) call_nil Tryz.func268 U268.b U268.vo

def E248 := en [(268, sp268)] []
def A248 : Fn [.S, .S] As := fun a b => [aS a, aS b]
def k248 : Fn [.B] Res := fun a => ⟨[aB a], []⟩
def sp248 := spf A248 k248 U248.c U248.v
theorem ok248 : FnOk Tryz.prog T 248 sp248 := fr (E := E248) (call_cons ok268 call_nil) Tryz.func248 U248.b U248.vo

def E207 := en [(248, sp248)] []
def A207 : Fn [.I, .R, .R, .R, .R, .I, .R, .R, .I, .I, .S, .I, .I, .I, .S, .I] As := fun a b c d e f g h i j k l m o p q => [aV [.n a, .sh 92 b, .sh 9 c, .sh 9 d, .sh 59 e, .n f, .sh 100 g, .sh 53 h, .n i], aV [.n j, .s k, .n l, .n m, .n o, .s p, .n q]]
def k207 : Fn [.B] Res := fun a => ⟨[aB a], []⟩
def sp207 := spf A207 k207 U207.c U207.v
theorem ok207 : FnOk Tryz.prog T 207 sp207 := fr (E := E207) (call_cons ok248 call_nil) Tryz.func207 U207.b U207.vo

def E206 := en [] []
def A206 : Fn [.S, .I, .I, .S, .I, .S, .I, .I, .I, .S, .I] As := fun a b c d e f g h i j k => [aV [.s a, .n b, .n c, .s d], .fb [.n e, .s f, .n g, .n h, .n i, .s j, .n k]]
def k206 : Fn [.B] Res := fun a => ⟨[aB a], []⟩
def sp206 := spf A206 k206 (ct _) U206.v
theorem ok206 : FnOk Tryz.prog T 206 sp206 := ft (E := E206) call_nil Tryz.func206 U206.b fun (a0, a1, a2, a3, a4, a5, a6, a7, a8, a9, a10, _) => U206.b_eq _ a0 a1 a2 a3 a4 a5 a6 a7 a8 a9 a10

def E66c := en [(206, sp206)] [(2, [0, 1, 4, 7, 8])]
def A66c : Fn [.R, .I, .S, .I, .I, .I, .S, .I] As := fun a b c d e f g h => [aH 92 a, .v false [.fn 206 [[.n b, .s c, .n d, .n e, .n f, .s g, .n h]]]]
def k66c : Fn [.I] Res := fun a => ⟨[aI a], []⟩
def T66c_2 : Fn [.R, .I, .S, .I, .I, .I, .S, .I, .I, .I, .I] Tb := fun a b c d e f g h i j k => [cH 0 92 a, cA 2 (.fn 206 [[.n b, .s c, .n d, .n e, .n f, .s g, .n h]]), cI 8 i, cI 14 j, cI 16 k]
def L66c_2 (N : Nat) {R : Type} (K : Kt R) := U66c.l2 N (J T66c_2 .ret K) (J T66c_2 (.exit 0) K)
def it66c (N : Nat) {R : Type} : It R := (lp 2 (al T66c_2 (fun K => L66c_2 N K N) an) ln)
theorem lo66c_2 {R : Type} (N : Nat) : LoopOk E66c (it66c N (R := R)) (loopOf Tryz.f66 2) := lq 2 T66c_2 (L66c_2 N) fun K g => U66c.r2 N g (J T66c_2 .ret K) (J T66c_2 (.exit 0) K)
def sp66c := spf A66c k66c U66c.c U66c.v
theorem ok66c : FnOk Tryz.prog T 66 sp66c := fq (E := E66c) (call_cons ok206 call_nil) Tryz.func66 (it := fun N => it66c N) (fun N => (loops_cons (lo66c_2 N) loops_nil)) U66c.b U66c.vo

def E208 := en [(66, sp66a), (66, sp66b), (66, sp66c), (206, sp206)] []
def A208 : Fn [.R, .I, .S, .I, .I, .I, .S, .I] As := fun a b c d e f g h => [aH 92 a, .v false [.fn 206 [[.n b, .s c, .n d, .n e, .n f, .s g, .n h]]]]
def k208 : Fn [.B] Res := fun a => ⟨[aB a], []⟩
def sp208 := spf A208 k208 U208.c U208.v
theorem ok208 : FnOk Tryz.prog T 208 sp208 := fr (E := E208) (call_cons ok66a (call_cons ok66b (call_cons ok66c (call_cons ok206 call_nil)))) Tryz.func208 U208.b U208.vo

def E121 := en [(207, sp207), (208, sp208)] [(2, [1, 2, 9, 10, 11])]
def A121 : Fn [.I, .R, .R, .R, .R, .I, .R, .R, .I, .R, .R, .R] As := fun a b c d e f g h i j k l => [aV [.n a, .sh 92 b, .sh 9 c, .sh 9 d, .sh 59 e, .n f, .sh 100 g, .sh 53 h, .n i, .sh 236 j, .sh 3 k, .sh 92 l]]
def k121 : Fn [.B] Res := fun a => ⟨[aB a], []⟩
def T121_2 : Fn [.B, .R, .I, .I, .I, .R, .R, .R, .R, .I, .R, .R, .I, .R, .R, .R] Tb := fun a b c d e f g h i j k l m o p q => [cP 2 0, cA 4 (.b a), cH 18 53 b, cI 20 c, cI 22 d, oB 1 [.n e, .sh 92 f, .sh 9 g, .sh 9 h, .sh 59 i, .n j, .sh 100 k, .sh 53 l, .n m, .sh 236 o, .sh 3 p, .sh 92 q]]
def L121_2 (N : Nat) {R : Type} (K : Kt R) := U121.l2 N (J T121_2 .ret K) (J T121_2 (.exit 0) K)
def it121 (N : Nat) {R : Type} : It R := (lp 2 (al T121_2 (fun K => L121_2 N K N) an) ln)
theorem lo121_2 {R : Type} (N : Nat) : LoopOk E121 (it121 N (R := R)) (loopOf Tryz.f121 2) := lq 2 T121_2 (L121_2 N) fun K g => U121.r2 N g (J T121_2 .ret K) (J T121_2 (.exit 0) K)
def sp121 := spf A121 k121 U121.c U121.v
theorem ok121 : FnOk Tryz.prog T 121 sp121 := fq (E := E121) (call_cons ok207 (call_cons ok208 call_nil)) Tryz.func121 (it := fun N => it121 N) (fun N => (loops_cons (lo121_2 N) loops_nil)) U121.b U121.vo

def E122 := en [(119, sp119)] [(2, [1, 2, 7, 8, 9])]
def A122 : Fn [.I, .R, .R, .R, .R, .I, .R, .R, .I, .R, .R, .R] As := fun a b c d e f g h i j k l => [aV [.n a, .sh 92 b, .sh 9 c, .sh 9 d, .sh 59 e, .n f, .sh 100 g, .sh 53 h, .n i, .sh 236 j, .sh 3 k, .sh 92 l]]
def k122 : Fn [.B] Res := fun a => ⟨[aB a], []⟩
def T122_2 : Fn [.B, .R, .I, .I, .I, .R, .R, .R, .R, .I, .R, .R, .I, .R, .R, .R] Tb := fun a b c d e f g h i j k l m o p q => [cP 2 0, cA 4 (.b a), cH 14 92 b, cI 16 c, cI 18 d, oB 1 [.n e, .sh 92 f, .sh 9 g, .sh 9 h, .sh 59 i, .n j, .sh 100 k, .sh 53 l, .n m, .sh 236 o, .sh 3 p, .sh 92 q]]
def L122_2 (N : Nat) {R : Type} (K : Kt R) := U122.l2 N (J T122_2 .ret K) (J T122_2 (.exit 0) K)
def it122 (N : Nat) {R : Type} : It R := (lp 2 (al T122_2 (fun K => L122_2 N K N) an) ln)
theorem lo122_2 {R : Type} (N : Nat) : LoopOk E122 (it122 N (R := R)) (loopOf Tryz.f122 2) := lq 2 T122_2 (L122_2 N) fun K g => U122.r2 N g (J T122_2 .ret K) (J T122_2 (.exit 0) K)
def sp122 := spf A122 k122 U122.c U122.v
theorem ok122 : FnOk Tryz.prog T 122 sp122 := fq (E := E122) (call_cons ok119 call_nil) Tryz.func122 (it := fun N => it122 N) (fun N => (loops_cons (lo122_2 N) loops_nil)) U122.b U122.vo

def E34 := en [(118, sp118), (68, sp68), (119, sp119), (25, sp25), (120, sp120), (121, sp121), (122, sp122)] [(3, [1, 2, 3, 11, 12, 13])]
def A34 : Fn [.I, .R, .R, .R, .R, .I, .R, .R, .I, .R, .R, .R] As := fun a b c d e f g h i j k l => [aV [.n a, .sh 92 b, .sh 9 c, .sh 9 d, .sh 59 e, .n f, .sh 100 g, .sh 53 h, .n i, .sh 236 j, .sh 3 k, .sh 92 l]]
def k34 : Fn [.B] Res := fun a => ⟨[aB a], []⟩
def T34_3 : Fn [.B, .R, .I, .I, .I, .R, .R, .R, .R, .I, .R, .R, .I, .R, .R, .R, .R] Tb := fun a b c d e f g h i j k l m o p q r => [cP 2 0, cA 4 (.b a), cA 6 (.own 1), cH 22 92 b, cI 24 c, cI 26 d, oB 1 [.n e, .sh 92 f, .sh 9 g, .sh 9 h, .sh 59 i, .n j, .sh 100 k, .sh 53 l, .n m, .sh 236 o, .sh 3 p, .sh 92 q], oR 3 92 r]
def L34_3 (N : Nat) {R : Type} (K : Kt R) := U34.l3 N (J T34_3 .ret K) (J T34_3 (.exit 0) K)
def it34 (N : Nat) {R : Type} : It R := (lp 3 (al T34_3 (fun K => L34_3 N K N) an) ln)
theorem lo34_3 {R : Type} (N : Nat) : LoopOk E34 (it34 N (R := R)) (loopOf Tryz.f34 3) := lq 3 T34_3 (L34_3 N) fun K g => U34.r3 N g (J T34_3 .ret K) (J T34_3 (.exit 0) K)
def sp34 := spf A34 k34 U34.c U34.v
theorem ok34 : FnOk Tryz.prog T 34 sp34 := fq (E := E34) (call_cons ok118 (call_cons ok68 (call_cons ok119 (call_cons ok25 (call_cons ok120 (call_cons ok121 (call_cons ok122 call_nil))))))) Tryz.func34 (it := fun N => it34 N) (fun N => (loops_cons (lo34_3 N) loops_nil)) U34.b U34.vo

def E171 := en [] []
def A171 : Fn [.S, .I, .I, .S, .S, .I, .I, .S] As := fun a b c d e f g h => [aV [.s a, .n b, .n c, .s d], aV [.s e, .n f, .n g, .s h]]
def k171 : Fn [.B] Res := fun a => ⟨[aB a], []⟩
def sp171 := spf A171 k171 (ct _) U171.v
theorem ok171 : FnOk Tryz.prog T 171 sp171 := ft (E := E171) call_nil Tryz.func171 U171.b fun (a0, a1, a2, a3, a4, a5, a6, a7, _) => U171.b_eq _ a0 a1 a2 a3 a4 a5 a6 a7

def E75 := en [(171, sp171)] [(4, [0, 1, 4, 5])]
def A75 : Fn [.R, .R] As := fun a b => [aH 92 a, aH 92 b]
def k75 : Fn [.B] Res := fun a => ⟨[aB a], []⟩
def T75_4 : Fn [.R, .R, .B, .I] Tb := fun a b c d => [cH 0 92 a, cH 2 92 b, cA 8 (.b c), cI 10 d]
def L75_4 (N : Nat) {R : Type} (K : Kt R) := U75.l4 N (J T75_4 .ret K) (J T75_4 (.exit 0) K)
def it75 (N : Nat) {R : Type} : It R := (lp 4 (al T75_4 (fun K => L75_4 N K N) an) ln)
theorem lo75_4 {R : Type} (N : Nat) : LoopOk E75 (it75 N (R := R)) (loopOf Tryz.f75 4) := lq 4 T75_4 (L75_4 N) fun K g => U75.r4 N g (J T75_4 .ret K) (J T75_4 (.exit 0) K)
def sp75 := spf A75 k75 U75.c U75.v
theorem ok75 : FnOk Tryz.prog T 75 sp75 := fq (E := E75) (call_cons ok171 call_nil) Tryz.func75 (it := fun N => it75 N) (fun N => (loops_cons (lo75_4 N) loops_nil)) U75.b U75.vo

def E172 := en [] [(4, [0, 1, 4, 5])]
def A172 : Fn [.R, .R] As := fun a b => [aH 9 a, aH 9 b]
def k172 : Fn [.B] Res := fun a => ⟨[aB a], []⟩
def T172_4 : Fn [.R, .R, .B, .I] Tb := fun a b c d => [cH 0 9 a, cH 2 9 b, cA 8 (.b c), cI 10 d]
def L172_4 (N : Nat) {R : Type} (K : Kt R) := U172.l4 N (J T172_4 .ret K) (J T172_4 (.exit 0) K)
def it172 (N : Nat) {R : Type} : It R := (lp 4 (al T172_4 (fun K => L172_4 N K N) an) ln)
theorem lo172_4 {R : Type} (N : Nat) : LoopOk E172 (it172 N (R := R)) (loopOf Tryz.f172 4) := lq 4 T172_4 (L172_4 N) fun K g => U172.r4 N g (J T172_4 .ret K) (J T172_4 (.exit 0) K)
def sp172 := spf A172 k172 U172.c U172.v
theorem ok172 : FnOk Tryz.prog T 172 sp172 := fq (E := E172) call_nil Tryz.func172 (it := fun N => it172 N) (fun N => (loops_cons (lo172_4 N) loops_nil)) U172.b U172.vo

def E124 := en [] [(4, [0, 1, 4, 5])]
def A124 : Fn [.R, .R] As := fun a b => [aH 3 a, aH 3 b]
def k124 : Fn [.B] Res := fun a => ⟨[aB a], []⟩
def T124_4 : Fn [.R, .R, .B, .I] Tb := fun a b c d => [cH 0 3 a, cH 2 3 b, cA 8 (.b c), cI 10 d]
def L124_4 (N : Nat) {R : Type} (K : Kt R) := U124.l4 N (J T124_4 .ret K) (J T124_4 (.exit 0) K)
def it124 (N : Nat) {R : Type} : It R := (lp 4 (al T124_4 (fun K => L124_4 N K N) an) ln)
theorem lo124_4 {R : Type} (N : Nat) : LoopOk E124 (it124 N (R := R)) (loopOf Tryz.f124 4) := lq 4 T124_4 (L124_4 N) fun K g => U124.r4 N g (J T124_4 .ret K) (J T124_4 (.exit 0) K)
def sp124 := spf A124 k124 (ct _) U124.v
theorem ok124 : FnOk Tryz.prog T 124 sp124 := fh (E := E124) call_nil Tryz.func124 (it := fun N => it124 N) (fun N => (loops_cons (lo124_4 N) loops_nil)) U124.b fun x f h => U124.b_eq _ x.1 x.2.1 f.1.1 f.2.1.1

def E225 := en [(124, sp124)] [(4, [0, 1, 4, 5])]
def A225 : Fn [.R, .R] As := fun a b => [aH 59 a, aH 59 b]
def k225 : Fn [.B] Res := fun a => ⟨[aB a], []⟩
def T225_4 : Fn [.R, .R, .B, .I] Tb := fun a b c d => [cH 0 59 a, cH 2 59 b, cA 8 (.b c), cI 10 d]
def L225_4 (N : Nat) {R : Type} (K : Kt R) := U225.l4 N (J T225_4 .ret K) (J T225_4 (.exit 0) K)
def it225 (N : Nat) {R : Type} : It R := (lp 4 (al T225_4 (fun K => L225_4 N K N) an) ln)
theorem lo225_4 {R : Type} (N : Nat) : LoopOk E225 (it225 N (R := R)) (loopOf Tryz.f225 4) := lq 4 T225_4 (L225_4 N) fun K g => U225.r4 N g (J T225_4 .ret K) (J T225_4 (.exit 0) K)
def sp225 := spf A225 k225 U225.c U225.v
theorem ok225 : FnOk Tryz.prog T 225 sp225 := fq (E := E225) (call_cons ok124 call_nil) Tryz.func225 (it := fun N => it225 N) (fun N => (loops_cons (lo225_4 N) loops_nil)) U225.b U225.vo

def E173 := en [(225, sp225)] []
def A173 : Fn [.R, .I, .R, .I] As := fun a b c d => [aV [.sh 59 a, .n b], aV [.sh 59 c, .n d]]
def k173 : Fn [.B] Res := fun a => ⟨[aB a], []⟩
def sp173 := spf A173 k173 U173.c U173.v
theorem ok173 : FnOk Tryz.prog T 173 sp173 := fr (E := E173) (call_cons ok225 call_nil) Tryz.func173 U173.b U173.vo

def E76 := en [(172, sp172), (173, sp173)] []
def A76 : Fn [.R, .R, .R, .I, .R, .R, .R, .I] As := fun a b c d e f g h => [aV [.sh 9 a, .sh 9 b, .sh 59 c, .n d], aV [.sh 9 e, .sh 9 f, .sh 59 g, .n h]]
def k76 : Fn [.B] Res := fun a => ⟨[aB a], []⟩
def sp76 := spf A76 k76 U76.c U76.v
theorem ok76 : FnOk Tryz.prog T 76 sp76 := fr (E := E76) (call_cons ok172 (call_cons ok173 call_nil)) Tryz.func76 U76.b U76.vo

def E174 := en [] []
def A174 : Fn [.S, .S, .I, .I, .I, .S, .S, .I, .I, .I] As := fun a b c d e f g h i j => [aV [.s a, .s b, .n c, .n d, .n e], aV [.s f, .s g, .n h, .n i, .n j]]
def k174 : Fn [.B] Res := fun a => ⟨[aB a], []⟩
def sp174 := spf A174 k174 (ct _) U174.v
theorem ok174 : FnOk Tryz.prog T 174 sp174 := ft (E := E174) call_nil Tryz.func174 U174.b fun (a0, a1, a2, a3, a4, a5, a6, a7, a8, a9, _) => U174.b_eq _ a0 a1 a2 a3 a4 a5 a6 a7 a8 a9

def E77 := en [(174, sp174)] [(4, [0, 1, 4, 5])]
def A77 : Fn [.R, .R] As := fun a b => [aH 100 a, aH 100 b]
def k77 : Fn [.B] Res := fun a => ⟨[aB a], []⟩
def T77_4 : Fn [.R, .R, .B, .I] Tb := fun a b c d => [cH 0 100 a, cH 2 100 b, cA 8 (.b c), cI 10 d]
def L77_4 (N : Nat) {R : Type} (K : Kt R) := U77.l4 N (J T77_4 .ret K) (J T77_4 (.exit 0) K)
def it77 (N : Nat) {R : Type} : It R := (lp 4 (al T77_4 (fun K => L77_4 N K N) an) ln)
theorem lo77_4 {R : Type} (N : Nat) : LoopOk E77 (it77 N (R := R)) (loopOf Tryz.f77 4) := lq 4 T77_4 (L77_4 N) fun K g => U77.r4 N g (J T77_4 .ret K) (J T77_4 (.exit 0) K)
def sp77 := spf A77 k77 U77.c U77.v
theorem ok77 : FnOk Tryz.prog T 77 sp77 := fq (E := E77) (call_cons ok174 call_nil) Tryz.func77 (it := fun N => it77 N) (fun N => (loops_cons (lo77_4 N) loops_nil)) U77.b U77.vo

def E175 := en [] []
def A175 : Fn [.I, .S, .I, .I, .I, .S, .I, .I, .S, .I, .I, .I, .S, .I] As := fun a b c d e f g h i j k l m o => [aV [.n a, .s b, .n c, .n d, .n e, .s f, .n g], aV [.n h, .s i, .n j, .n k, .n l, .s m, .n o]]
def k175 : Fn [.B] Res := fun a => ⟨[aB a], []⟩
def sp175 := spf A175 k175 (ct _) U175.v
theorem ok175 : FnOk Tryz.prog T 175 sp175 := ft (E := E175) call_nil Tryz.func175 U175.b fun (a0, a1, a2, a3, a4, a5, a6, a7, a8, a9, a10, a11, a12, a13, _) => U175.b_eq _ a0 a1 a2 a3 a4 a5 a6 a7 a8 a9 a10 a11 a12 a13

def E78 := en [(175, sp175)] [(4, [0, 1, 4, 5])]
def A78 : Fn [.R, .R] As := fun a b => [aH 53 a, aH 53 b]
def k78 : Fn [.B] Res := fun a => ⟨[aB a], []⟩
def T78_4 : Fn [.R, .R, .B, .I] Tb := fun a b c d => [cH 0 53 a, cH 2 53 b, cA 8 (.b c), cI 10 d]
def L78_4 (N : Nat) {R : Type} (K : Kt R) := U78.l4 N (J T78_4 .ret K) (J T78_4 (.exit 0) K)
def it78 (N : Nat) {R : Type} : It R := (lp 4 (al T78_4 (fun K => L78_4 N K N) an) ln)
theorem lo78_4 {R : Type} (N : Nat) : LoopOk E78 (it78 N (R := R)) (loopOf Tryz.f78 4) := lq 4 T78_4 (L78_4 N) fun K g => U78.r4 N g (J T78_4 .ret K) (J T78_4 (.exit 0) K)
def sp78 := spf A78 k78 U78.c U78.v
theorem ok78 : FnOk Tryz.prog T 78 sp78 := fq (E := E78) (call_cons ok175 call_nil) Tryz.func78 (it := fun N => it78 N) (fun N => (loops_cons (lo78_4 N) loops_nil)) U78.b U78.vo

def E12 := en [(75, sp75), (76, sp76), (77, sp77), (78, sp78)] []
def A12 : Fn [.I, .R, .R, .R, .R, .I, .R, .R, .I, .I, .R, .R, .R, .R, .I, .R, .R, .I] As := fun a b c d e f g h i j k l m o p q r s => [aV [.n a, .sh 92 b, .sh 9 c, .sh 9 d, .sh 59 e, .n f, .sh 100 g, .sh 53 h, .n i], aV [.n j, .sh 92 k, .sh 9 l, .sh 9 m, .sh 59 o, .n p, .sh 100 q, .sh 53 r, .n s]]
def k12 : Fn [.B] Res := fun a => ⟨[aB a], []⟩
def sp12 := spf A12 k12 U12.c U12.v
theorem ok12 : FnOk Tryz.prog T 12 sp12 := fr (E := E12) (call_cons ok75 (call_cons ok76 (call_cons ok77 (call_cons ok78 call_nil)))) Tryz.func12 U12.b U12.vo

def E249 := en [] []
def A249 : Fn [.S, .S, .I, .S, .S, .I] As := fun a b c d e f => [aV [.s a, .s b, .n c], aV [.s d, .s e, .n f]]
def k249 : Fn [.B] Res := fun a => ⟨[aB a], []⟩
def sp249 := spf A249 k249 (ct _) U249.v
theorem ok249 : FnOk Tryz.prog T 249 sp249 := ft (E := E249) call_nil Tryz.func249 U249.b fun (a0, a1, a2, a3, a4, a5, _) => U249.b_eq _ a0 a1 a2 a3 a4 a5

def E209 := en [(249, sp249)] [(4, [0, 1, 4, 5])]
def A209 : Fn [.R, .R] As := fun a b => [aH 236 a, aH 236 b]
def k209 : Fn [.B] Res := fun a => ⟨[aB a], []⟩
def T209_4 : Fn [.R, .R, .B, .I] Tb := fun a b c d => [cH 0 236 a, cH 2 236 b, cA 8 (.b c), cI 10 d]
def L209_4 (N : Nat) {R : Type} (K : Kt R) := U209.l4 N (J T209_4 .ret K) (J T209_4 (.exit 0) K)
def it209 (N : Nat) {R : Type} : It R := (lp 4 (al T209_4 (fun K => L209_4 N K N) an) ln)
theorem lo209_4 {R : Type} (N : Nat) : LoopOk E209 (it209 N (R := R)) (loopOf Tryz.f209 4) := lq 4 T209_4 (L209_4 N) fun K g => U209.r4 N g (J T209_4 .ret K) (J T209_4 (.exit 0) K)
def sp209 := spf A209 k209 U209.c U209.v
theorem ok209 : FnOk Tryz.prog T 209 sp209 := fq (E := E209) (call_cons ok249 call_nil) Tryz.func209 (it := fun N => it209 N) (fun N => (loops_cons (lo209_4 N) loops_nil)) U209.b U209.vo

def E123 := en [(209, sp209)] []
def A123 : Fn [.R, .R] As := fun a b => [aV [.sh 236 a], aV [.sh 236 b]]
def k123 : Fn [.B] Res := fun a => ⟨[aB a], []⟩
def sp123 := spf A123 k123 U123.c U123.v
theorem ok123 : FnOk Tryz.prog T 123 sp123 := fr (E := E123) (call_cons ok209 call_nil) Tryz.func123 U123.b U123.vo

def E35 := en [(12, sp12), (123, sp123), (124, sp124), (75, sp75)] []
def A35 : Fn [.I, .R, .R, .R, .R, .I, .R, .R, .I, .R, .R, .R, .I, .R, .R, .R, .R, .I, .R, .R, .I, .R, .R, .R] As := fun a b c d e f g h i j k l m o p q r s t u v w x y => [aV [.n a, .sh 92 b, .sh 9 c, .sh 9 d, .sh 59 e, .n f, .sh 100 g, .sh 53 h, .n i, .sh 236 j, .sh 3 k, .sh 92 l], aV [.n m, .sh 92 o, .sh 9 p, .sh 9 q, .sh 59 r, .n s, .sh 100 t, .sh 53 u, .n v, .sh 236 w, .sh 3 x, .sh 92 y]]
def k35 : Fn [.B] Res := fun a => ⟨[aB a], []⟩
def sp35 := spf A35 k35 U35.c U35.v
theorem ok35 : FnOk Tryz.prog T 35 sp35 := fr (E := E35) (call_cons ok12 (call_cons ok123 (call_cons ok124 (call_cons ok75 call_nil)))) Tryz.func35 U35.b U35.vo

def E6 := en [(31, sp31), (33, sp33), (32, sp32), (34, sp34), (35, sp35)] []
def A6 : Fn [.I, .R, .R, .R, .R, .I, .R, .R, .I, .R, .R, .R] As := fun a b c d e f g h i j k l => [aV [.n a, .sh 157 b, .sh 9 c, .sh 9 d, .sh 59 e, .n f, .sh 161 g, .sh 163 h, .n i, .sh 235 j, .sh 3 k, .sh 157 l]]
def k6 : Fn [.B] Res := fun a => ⟨[aB a], []⟩
def sp6 := spf A6 k6 U6.c U6.v
theorem ok6 : FnOk Tryz.prog T 6 sp6 := fr (E := E6) (call_cons ok31 (call_cons ok33 (call_cons ok32 (call_cons ok34 (call_cons ok35 call_nil))))) Tryz.func6 U6.b U6.vo

def E223 := en [] []
def A223 : Fn [.R] As := fun a => [aH 3 a]
def k223 : Fn [.R] Res := fun a => ⟨[aO 3 a], []⟩
def sp223 := spf A223 k223 U223.c U223.v

def E168 := en [(223, sp223)] [(3, [2, 3, 10, 11, 12])]
def A168 : Fn [.R, .I] As := fun a b => [aV [.sh 59 a, .n b]]
def k168 : Fn [.R, .I] Res := fun a b => ⟨[aV [.ow 59 true a, .n b]], []⟩
def T168_3 : Fn [.R, .I, .I, .I, .I] Tb := fun a b c d e => [cP 4 0, cP 6 1, cH 20 59 a, cI 22 b, cI 24 c, oB 1 [.nl, .n d], oB 3 [.nl, .n e]]
def T168_3a : Fn [.R, .I, .I, .I, .I, .R] Tb := fun a b c d e f => [cP 4 0, cP 6 1, cH 20 59 a, cI 22 b, cI 24 c, oB 1 [.nl, .n d], oB 3 [.own 2, .n e], oR 5 59 f]
def L168_3 (N : Nat) {R : Type} (K : Kt R) := U168.l3 N (J T168_3 (.exit 0) K) (J T168_3a (.exit 0) K)
def L168_3a (N : Nat) {R : Type} (K : Kt R) := U168.l3a N (J T168_3 (.exit 0) K) (J T168_3a (.exit 0) K)
def it168 (N : Nat) {R : Type} : It R := (lp 3 (al T168_3 (fun K => L168_3 N K N) (al T168_3a (fun K => L168_3a N K N) an)) ln)
def sp168 := spf A168 k168 U168.c U168.v

end Go.FG.Se
