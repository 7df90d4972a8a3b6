/- Functions of the program: the evaluation of each, and that a call of it does what is told. No condition. -/
import Derived.Test.YtpcfgiocpohbmaaDoorTab
import Derived.Test.YtpcfgiocpohbmaaDoorPExactShowClients
import Derived.Test.YtpcfgiocpohbmaaDoorSh
import Derived.Shelf.Strconv.Itoa3
import Derived.Lib.ItoaLen
set_option linter.unusedVariables false
set_option linter.unusedSimpArgs false
set_option maxRecDepth 100000
namespace Go.FG.Se
open Go.Proofs Go.Proofs.Tryd
variable {R : Type}
abbrev FO := FnOk Tryd.prog T

def E41 := en [] []
def A41 : Fn [.S, .I, .I, .S, .I] As := fun a b c d e => [aV [.s a, .n b, .n c, .s d], aI e]
def k41 : Fn [.I] Res := fun a => ⟨[aI a], []⟩
def sp41 := spf A41 k41 (ct _) U41.v
theorem ok41 : FO 41 sp41 := ft (E := E41) call_nil func41 U41.b fun (a0, a1, a2, a3, a4, _) => U41.b_eq _ a0 a1 a2 a3 a4

def E15 := en [(41, sp41)] [(5, [0, 1, 4, 5])]
def A15 : Fn [.R, .I] As := fun a b => [aH 81 a, aI b]
def k15 : Fn [.I] Res := fun a => ⟨[aI a], []⟩
def T15_5 : Fn [.R, .I, .I, .I] Tb := fun a b c d => [cH 0 81 a, cI 2 b, cI 8 c, cI 10 d]
def L15_5 (N : Nat) (K : Kt R) := U15.l5 N (J T15_5 .ret K) (J T15_5 (.exit 0) K)
def it15 (N : Nat) : It R := (lp 5 (al T15_5 (fun K => L15_5 N K N) an) ln)
theorem lo15_5 (N : Nat) : LoopOk E15 (it15 N (R := R)) (loopOf f15 5) := lq 5 T15_5 (L15_5 N) fun K g => U15.r5 N g (J T15_5 .ret K) (J T15_5 (.exit 0) K)
def sp15 := spf A15 k15 U15.c U15.v
theorem ok15 : FO 15 sp15 := fq (E := E15) (call_cons ok41 call_nil) func15 (it := fun N => it15 N) (fun N => (loops_cons (lo15_5 N) loops_nil)) U15.b U15.vo

def E42 := en [] [(5, [0, 1, 4, 5])]
def A42 : Fn [.R, .I] As := fun a b => [aH 9 a, aI b]
def k42 : Fn [.I] Res := fun a => ⟨[aI a], []⟩
def T42_5 : Fn [.R, .I, .I, .I] Tb := fun a b c d => [cH 0 9 a, cI 2 b, cI 8 c, cI 10 d]
def L42_5 (N : Nat) (K : Kt R) := U42.l5 N (J T42_5 .ret K) (J T42_5 (.exit 0) K)
def it42 (N : Nat) : It R := (lp 5 (al T42_5 (fun K => L42_5 N K N) an) ln)
theorem lo42_5 (N : Nat) : LoopOk E42 (it42 N (R := R)) (loopOf f42 5) := lq 5 T42_5 (L42_5 N) fun K g => U42.r5 N g (J T42_5 .ret K) (J T42_5 (.exit 0) K)
def sp42 := spf A42 k42 U42.c U42.v
theorem ok42 : FO 42 sp42 := fq (E := E42) call_nil func42 (it := fun N => it42 N) (fun N => (loops_cons (lo42_5 N) loops_nil)) U42.b U42.vo

def E76 := en [] []
def A76 : Fn [.R, .I] As := fun a b => [aH 3 a, aI b]
def k76 : Fn [.I] Res := fun a => ⟨[aI a], []⟩
def sp76 := spf A76 k76 (ct _) U76.v
theorem ok76 : FO 76 sp76 := ft (E := E76) call_nil func76 U76.b fun (a0, a1, _) => U76.b_eq _ a0 a1

def E67 := en [(76, sp76)] [(5, [0, 1, 4, 5])]
def A67 : Fn [.R, .I] As := fun a b => [aH 70 a, aI b]
def k67 : Fn [.I] Res := fun a => ⟨[aI a], []⟩
def T67_5 : Fn [.R, .I, .I, .I] Tb := fun a b c d => [cH 0 70 a, cI 2 b, cI 8 c, cI 10 d]
def L67_5 (N : Nat) (K : Kt R) := U67.l5 N (J T67_5 .ret K) (J T67_5 (.exit 0) K)
def it67 (N : Nat) : It R := (lp 5 (al T67_5 (fun K => L67_5 N K N) an) ln)
theorem lo67_5 (N : Nat) : LoopOk E67 (it67 N (R := R)) (loopOf f67 5) := lq 5 T67_5 (L67_5 N) fun K g => U67.r5 N g (J T67_5 .ret K) (J T67_5 (.exit 0) K)
def sp67 := spf A67 k67 U67.c U67.v
theorem ok67 : FO 67 sp67 := fq (E := E67) (call_cons ok76 call_nil) func67 (it := fun N => it67 N) (fun N => (loops_cons (lo67_5 N) loops_nil)) U67.b U67.vo

def E43 := en [(67, sp67)] []
def A43 : Fn [.R, .I, .I] As := fun a b c => [aV [.sh 70 a, .n b], aI c]
def k43 : Fn [.I] Res := fun a => ⟨[aI a], []⟩
def sp43 := spf A43 k43 U43.c U43.v
theorem ok43 : FO 43 sp43 := fr (E := E43) (call_cons ok67 call_nil) func43 U43.b U43.vo

def E16 := en [(42, sp42), (43, sp43)] []
def A16 : Fn [.R, .R, .R, .I, .I] As := fun a b c d e => [aV [.sh 9 a, .sh 9 b, .sh 70 c, .n d], aI e]
def k16 : Fn [.I] Res := fun a => ⟨[aI a], []⟩
def sp16 := spf A16 k16 U16.c U16.v
theorem ok16 : FO 16 sp16 := fr (E := E16) (call_cons ok42 (call_cons ok43 call_nil)) func16 U16.b U16.vo

def E44 := en [] []
def A44 : Fn [.S, .S, .I, .I, .I, .I] As := fun a b c d e f => [aV [.s a, .s b, .n c, .n d, .n e], aI f]
def k44 : Fn [.I] Res := fun a => ⟨[aI a], []⟩
def sp44 := spf A44 k44 (ct _) U44.v
theorem ok44 : FO 44 sp44 := ft (E := E44) call_nil func44 U44.b fun (a0, a1, a2, a3, a4, a5, _) => U44.b_eq _ a0 a1 a2 a3 a4 a5

def E17 := en [(44, sp44)] [(5, [0, 1, 4, 5])]
def A17 : Fn [.R, .I] As := fun a b => [aH 86 a, aI b]
def k17 : Fn [.I] Res := fun a => ⟨[aI a], []⟩
def T17_5 : Fn [.R, .I, .I, .I] Tb := fun a b c d => [cH 0 86 a, cI 2 b, cI 8 c, cI 10 d]
def L17_5 (N : Nat) (K : Kt R) := U17.l5 N (J T17_5 .ret K) (J T17_5 (.exit 0) K)
def it17 (N : Nat) : It R := (lp 5 (al T17_5 (fun K => L17_5 N K N) an) ln)
theorem lo17_5 (N : Nat) : LoopOk E17 (it17 N (R := R)) (loopOf f17 5) := lq 5 T17_5 (L17_5 N) fun K g => U17.r5 N g (J T17_5 .ret K) (J T17_5 (.exit 0) K)
def sp17 := spf A17 k17 U17.c U17.v
theorem ok17 : FO 17 sp17 := fq (E := E17) (call_cons ok44 call_nil) func17 (it := fun N => it17 N) (fun N => (loops_cons (lo17_5 N) loops_nil)) U17.b U17.vo

def E45 := en [] []
def A45 : Fn [.I, .S, .I, .I, .I, .S, .I, .I] As := fun a b c d e f g h => [aV [.n a, .s b, .n c, .n d, .n e, .s f, .n g], aI h]
def k45 : Fn [.I] Res := fun a => ⟨[aI a], []⟩
def sp45 := spf A45 k45 (ct _) U45.v
theorem ok45 : FO 45 sp45 := ft (E := E45) call_nil func45 U45.b fun (a0, a1, a2, a3, a4, a5, a6, a7, _) => U45.b_eq _ a0 a1 a2 a3 a4 a5 a6 a7

def E18 := en [(45, sp45)] [(5, [0, 1, 4, 5])]
def A18 : Fn [.R, .I] As := fun a b => [aH 88 a, aI b]
def k18 : Fn [.I] Res := fun a => ⟨[aI a], []⟩
def T18_5 : Fn [.R, .I, .I, .I] Tb := fun a b c d => [cH 0 88 a, cI 2 b, cI 8 c, cI 10 d]
def L18_5 (N : Nat) (K : Kt R) := U18.l5 N (J T18_5 .ret K) (J T18_5 (.exit 0) K)
def it18 (N : Nat) : It R := (lp 5 (al T18_5 (fun K => L18_5 N K N) an) ln)
theorem lo18_5 (N : Nat) : LoopOk E18 (it18 N (R := R)) (loopOf f18 5) := lq 5 T18_5 (L18_5 N) fun K g => U18.r5 N g (J T18_5 .ret K) (J T18_5 (.exit 0) K)
def sp18 := spf A18 k18 U18.c U18.v
theorem ok18 : FO 18 sp18 := fq (E := E18) (call_cons ok45 call_nil) func18 (it := fun N => it18 N) (fun N => (loops_cons (lo18_5 N) loops_nil)) U18.b U18.vo

def E5 := en [(15, sp15), (16, sp16), (17, sp17), (18, sp18)] []
def A5 : Fn [.I, .R, .R, .R, .R, .I, .R, .R, .I, .I] As := fun a b c d e f g h i j => [aV [.n a, .sh 81 b, .sh 9 c, .sh 9 d, .sh 70 e, .n f, .sh 86 g, .sh 88 h, .n i], aI j]
def k5 : Fn [.I] Res := fun a => ⟨[aI a], []⟩
def sp5 := spf A5 k5 U5.c U5.v
theorem ok5 : FO 5 sp5 := fr (E := E5) (call_cons ok15 (call_cons ok16 (call_cons ok17 (call_cons ok18 call_nil)))) func5 U5.b U5.vo

def E47 := en [] []
def A47 : Fn [.S, .I, .I, .S] As := fun a b c d => [aV [.s a, .n b, .n c, .s d]]
def k47 : Fn [.S, .I, .I, .S] Res := fun a b c d => ⟨[aV [.s a, .n b, .n c, .s d]], []⟩
def sp47 := spf A47 k47 (ct _) U47.v
theorem ok47 : FO 47 sp47 := ft (E := E47) call_nil func47 U47.b fun (a0, a1, a2, a3, _) => U47.b_eq _ a0 a1 a2 a3

def E20 := en [(47, sp47)] [(3, [0, 3, 4])]
def A20 : Fn [.R] As := fun a => [aH 81 a]
def k20 : Fn [.R] Res := fun a => ⟨[aO 89 a], []⟩
def T20_3 : Fn [.R, .I, .R] Tb := fun a b c => [cH 0 81 a, cA 6 (.own 0), cI 8 b, oR 1 89 c]
def L20_3 (N : Nat) (K : Kt R) := U20.l3 N (J T20_3 (.exit 0) K)
def it20 (N : Nat) : It R := (lp 3 (al T20_3 (fun K => L20_3 N K N) an) ln)
theorem lo20_3 (N : Nat) : LoopOk E20 (it20 N (R := R)) (loopOf f20 3) := lq 3 T20_3 (L20_3 N) fun K g => U20.r3 N g (J T20_3 (.exit 0) K)
def sp20 := spf A20 k20 U20.c U20.v
theorem ok20 : FO 20 sp20 := fq (E := E20) (call_cons ok47 call_nil) func20 (it := fun N => it20 N) (fun N => (loops_cons (lo20_3 N) loops_nil)) U20.b U20.vo

def E48 := en [] [(3, [0, 3, 4])]
def A48 : Fn [.R] As := fun a => [aH 9 a]
def k48 : Fn [.R] Res := fun a => ⟨[aO 9 a], []⟩
def T48_3 : Fn [.R, .I, .R] Tb := fun a b c => [cH 0 9 a, cA 6 (.own 0), cI 8 b, oR 1 9 c]
def L48_3 (N : Nat) (K : Kt R) := U48.l3 N (J T48_3 (.exit 0) K)
def it48 (N : Nat) : It R := (lp 3 (al T48_3 (fun K => L48_3 N K N) an) ln)
theorem lo48_3 (N : Nat) : LoopOk E48 (it48 N (R := R)) (loopOf f48 3) := lq 3 T48_3 (L48_3 N) fun K g => U48.r3 N g (J T48_3 (.exit 0) K)
def sp48 := spf A48 k48 U48.c U48.v
theorem ok48 : FO 48 sp48 := fq (E := E48) call_nil func48 (it := fun N => it48 N) (fun N => (loops_cons (lo48_3 N) loops_nil)) U48.b U48.vo

def E77 := en [] [(3, [0, 3, 4])]
def A77 : Fn [.R] As := fun a => [aH 3 a]
def k77 : Fn [.R] Res := fun a => ⟨[aO 3 a], []⟩
def T77_3 : Fn [.R, .I, .R] Tb := fun a b c => [cH 0 3 a, cA 6 (.own 0), cI 8 b, oR 1 3 c]
def L77_3 (N : Nat) (K : Kt R) := U77.l3 N (J T77_3 (.exit 0) K)
def it77 (N : Nat) : It R := (lp 3 (al T77_3 (fun K => L77_3 N K N) an) ln)
theorem lo77_3 (N : Nat) : LoopOk E77 (it77 N (R := R)) (loopOf f77 3) := lq 3 T77_3 (L77_3 N) fun K g => U77.r3 N g (J T77_3 (.exit 0) K)
def sp77 := spf A77 k77 U77.c U77.v
theorem ok77 : FO 77 sp77 := fh (E := E77) call_nil func77 (it := fun N => it77 N) (fun N => (loops_cons (lo77_3 N) loops_nil)) U77.b fun x f h => U77.b_eq _ x.1 h

def E69 := en [(77, sp77)] [(3, [0, 3, 4])]
def A69 : Fn [.R] As := fun a => [aH 70 a]
def k69 : Fn [.R] Res := fun a => ⟨[aO 70 a], []⟩
def T69_3 : Fn [.R, .I, .R] Tb := fun a b c => [cH 0 70 a, cA 6 (.own 999), cI 8 b, oR 1999 70 c]
def L69_3 (N : Nat) (K : Kt R) := U69.l3 N (J T69_3 (.exit 0) K)
def it69 (N : Nat) : It R := (lp 3 (al T69_3 (fun K => L69_3 N K N) an) ln)
theorem lo69_3 (N : Nat) : LoopOk E69 (it69 N (R := R)) (loopOf f69 3) := lq 3 T69_3 (L69_3 N) fun K g => U69.r3 N g (J T69_3 (.exit 0) K)
def sp69 := spf A69 k69 U69.c U69.v
theorem ok69 : FO 69 sp69 := fq (E := E69) (call_cons ok77 call_nil) func69 (it := fun N => it69 N) (fun N => (loops_cons (lo69_3 N) loops_nil)) U69.b U69.vo

def E49 := en [(69, sp69)] []
def A49 : Fn [.R, .I] As := fun a b => [aV [.sh 70 a, .n b]]
def k49 : Fn [.R, .I] Res := fun a b => ⟨[aV [.ow 70 true a, .n b]], []⟩
def sp49 := spf A49 k49 U49.c U49.v
theorem ok49 : FO 49 sp49 := fr (E := E49) (call_cons ok69 call_nil) func49 U49.b U49.vo

def E21 := en [(48, sp48), (49, sp49)] []
def A21 : Fn [.R, .R, .R, .I] As := fun a b c d => [aV [.sh 9 a, .sh 9 b, .sh 70 c, .n d]]
def k21 : Fn [.R, .R, .R, .I] Res := fun a b c d => ⟨[aV [.ow 9 true a, .ow 9 true b, .ow 70 true c, .n d]], []⟩
def sp21 := spf A21 k21 U21.c U21.v
theorem ok21 : FO 21 sp21 := fr (E := E21) (call_cons ok48 (call_cons ok49 call_nil)) func21 U21.b U21.vo

def E50 := en [] []
def A50 : Fn [.S, .S, .I, .I, .I] As := fun a b c d e => [aV [.s a, .s b, .n c, .n d, .n e]]
def k50 : Fn [.S, .S, .I, .I, .I] Res := fun a b c d e => ⟨[aV [.s a, .s b, .n c, .n d, .n e]], []⟩
def sp50 := spf A50 k50 (ct _) U50.v
theorem ok50 : FO 50 sp50 := ft (E := E50) call_nil func50 U50.b fun (a0, a1, a2, a3, a4, _) => U50.b_eq _ a0 a1 a2 a3 a4

def E22 := en [(50, sp50)] [(3, [0, 3, 4])]
def A22 : Fn [.R] As := fun a => [aH 86 a]
def k22 : Fn [.R] Res := fun a => ⟨[aO 93 a], []⟩
def T22_3 : Fn [.R, .I, .R] Tb := fun a b c => [cH 0 86 a, cA 6 (.own 0), cI 8 b, oR 1 93 c]
def L22_3 (N : Nat) (K : Kt R) := U22.l3 N (J T22_3 (.exit 0) K)
def it22 (N : Nat) : It R := (lp 3 (al T22_3 (fun K => L22_3 N K N) an) ln)
theorem lo22_3 (N : Nat) : LoopOk E22 (it22 N (R := R)) (loopOf f22 3) := lq 3 T22_3 (L22_3 N) fun K g => U22.r3 N g (J T22_3 (.exit 0) K)
def sp22 := spf A22 k22 U22.c U22.v
theorem ok22 : FO 22 sp22 := fq (E := E22) (call_cons ok50 call_nil) func22 (it := fun N => it22 N) (fun N => (loops_cons (lo22_3 N) loops_nil)) U22.b U22.vo

def E51 := en [] []
def A51 : Fn [.I, .S, .I, .I, .I, .S, .I] As := fun a b c d e f g => [aV [.n a, .s b, .n c, .n d, .n e, .s f, .n g]]
def k51 : Fn [.I, .S, .I, .I, .I, .S, .I] Res := fun a b c d e f g => ⟨[aV [.n a, .s b, .n c, .n d, .n e, .s f, .n g]], []⟩
def sp51 := spf A51 k51 (ct _) U51.v
theorem ok51 : FO 51 sp51 := ft (E := E51) call_nil func51 U51.b fun (a0, a1, a2, a3, a4, a5, a6, _) => U51.b_eq _ a0 a1 a2 a3 a4 a5 a6

def E23 := en [(51, sp51)] [(3, [0, 3, 4])]
def A23 : Fn [.R] As := fun a => [aH 88 a]
def k23 : Fn [.R] Res := fun a => ⟨[aO 57 a], []⟩
def T23_3 : Fn [.R, .I, .R] Tb := fun a b c => [cH 0 88 a, cA 6 (.own 0), cI 8 b, oR 1 57 c]
def L23_3 (N : Nat) (K : Kt R) := U23.l3 N (J T23_3 (.exit 0) K)
def it23 (N : Nat) : It R := (lp 3 (al T23_3 (fun K => L23_3 N K N) an) ln)
theorem lo23_3 (N : Nat) : LoopOk E23 (it23 N (R := R)) (loopOf f23 3) := lq 3 T23_3 (L23_3 N) fun K g => U23.r3 N g (J T23_3 (.exit 0) K)
def sp23 := spf A23 k23 U23.c U23.v
theorem ok23 : FO 23 sp23 := fq (E := E23) (call_cons ok51 call_nil) func23 (it := fun N => it23 N) (fun N => (loops_cons (lo23_3 N) loops_nil)) U23.b U23.vo

def E7 := en [(20, sp20), (21, sp21), (22, sp22), (23, sp23)] []
def A7 : Fn [.I, .R, .R, .R, .R, .I, .R, .R, .I] As := fun a b c d e f g h i => [aV [.n a, .sh 81 b, .sh 9 c, .sh 9 d, .sh 70 e, .n f, .sh 86 g, .sh 88 h, .n i]]
def k7 : Fn [.I, .R, .R, .R, .R, .I, .R, .R, .I] Res := fun a b c d e f g h i => ⟨[aV [.n a, .ow 89 true b, .ow 9 true c, .ow 9 true d, .ow 70 true e, .n f, .ow 93 true g, .ow 57 true h, .n i]], []⟩
def sp7 := spf A7 k7 U7.c U7.v
theorem ok7 : FO 7 sp7 := fr (E := E7) (call_cons ok20 (call_cons ok21 (call_cons ok22 (call_cons ok23 call_nil)))) func7 U7.b U7.vo

def E68 := en [] []
def A68 : Fn [.I] As := fun a => [aI a]
def k68 : Fn [.I] Res := fun a => ⟨[.v false [.i .u8 a]], []⟩
def sp68 := spf A68 k68 (ct _) U68.v
theorem ok68 : FO 68 sp68 := ft (E := E68) call_nil func68 U68.b fun (a0, _) => U68.b_eq _ a0

def E46 := en [(68, sp68)] [(5, [0, 3, 4])]
def A46 : Fn [.I] As := fun a => [aI a]
def k46 : Fn [.S] Res := fun a => ⟨[aS a], []⟩
def T46_5 : Fn [.I, .B, .S] Tb := fun a b c => [cI 0 a, cA 6 (.b b), cA 8 (.s c)]
def L46_5 (N : Nat) (K : Kt R) := U46.l5 N (J T46_5 (.exit 0) K)
def it46 (N : Nat) : It R := (lp 5 (al T46_5 (fun K => L46_5 N K N) an) ln)
theorem lo46_5 (N : Nat) : LoopOk E46 (it46 N (R := R)) (loopOf f46 5) := lq 5 T46_5 (L46_5 N) fun K g => U46.r5 N g (J T46_5 (.exit 0) K)
def sp46 := spf A46 k46 U46.c U46.v
theorem ok46 : FO 46 sp46 := fq (E := E46) (call_cons ok68 call_nil) func46 (it := fun N => it46 N) (fun N => (loops_cons (lo46_5 N) loops_nil)) U46.b U46.vo

def E19 := en [(46, sp46)] []
def A19 : Fn [.I] As := fun a => [aI a]
def k19 : Fn [.S] Res := fun a => ⟨[aS a], []⟩
def sp19 := spf A19 k19 U19.c U19.v
theorem ok19 : FO 19 sp19 := fr (E := E19) (call_cons ok46 call_nil) func19 U19.b U19.vo

def E6 := en [(19, sp19)] [(3, [1, 3, 4])]
def A6 : Fn [.I, .R, .R, .R, .R, .I, .R, .R, .I] As := fun a b c d e f g h i => [aV [.n a, .sh 89 b, .sh 9 c, .sh 9 d, .sh 70 e, .n f, .sh 93 g, .sh 57 h, .n i]]
def k6 : Fn [.S] Res := fun a => ⟨[aS a], []⟩
def T6_3 : Fn [.S, .I, .I, .R, .R, .R, .R, .I, .R, .R, .I] Tb := fun a b c d e f g h i j k => [cP 2 0, cA 6 (.s a), cI 8 b, oB 1 [.n c, .sh 89 d, .sh 9 e, .sh 9 f, .sh 70 g, .n h, .sh 93 i, .sh 57 j, .n k]]
def L6_3 (N : Nat) (K : Kt R) := U6.l3 N (J T6_3 (.exit 0) K)
def it6 (N : Nat) : It R := (lp 3 (al T6_3 (fun K => L6_3 N K N) an) ln)
theorem lo6_3 (N : Nat) : LoopOk E6 (it6 N (R := R)) (loopOf f6 3) := lq 3 T6_3 (L6_3 N) fun K g => U6.r3 N g (J T6_3 (.exit 0) K)
def sp6 := spf A6 k6 U6.c U6.v
theorem ok6 : FO 6 sp6 := fq (E := E6) (call_cons ok19 call_nil) func6 (it := fun N => it6 N) (fun N => (loops_cons (lo6_3 N) loops_nil)) U6.b U6.vo

def A52 : Fn [.I] As := fun a => [aI a]
def k52 : Fn [.S] Res := fun a => ⟨[aS a], []⟩
def sp52 := spf A52 k52 U52.c U52.v
theorem ok52 : FO 52 sp52 := by
 refine fn_leaf func52 (by kernel_rfl) (by kernel_rfl) (by intro x; rfl) fun x hx w c1 vs hok hsz hvs => ?_
 obtain ⟨n, _⟩ := x
 replace hx : (decide (-9223372036854775808 <= n) && decide (n <= 9223372036854775807)) = true := hx
 simp only [Bool.and_eq_true, decide_eq_true_eq] at hx
 obtain ⟨v, hv, hs⟩ := hvs 0 _ rfl
 have hs : v = .int .i64 n := hs
 subst hs
 have hsz : vs.size = 1 := hsz
 obtain rfl : vs = #[.int .i64 n] := by
  apply Array.ext
  ·simpa using hsz
  ·intro i h1 h2
   obtain rfl : i = 0 := by simp at h2; omega
   simpa using (Array.getElem?_eq_some_iff.1 hv).2
 obtain ⟨hg, cs, h1, rfl⟩ := hok.gp
 refine (Any.strconv_Itoa Tryd.lays171 n hx.1 hx.2 w h1).mono fun e w' he => ?_
 obtain ⟨rfl, k, os, rfl⟩ := he
 refine ⟨_, rfl, ret_none c1.K hok (fun m o h => by cases h) (below_drewG w k os) (fun _ h => h) (fun _ h => .inl h) ⟨rfl, ?_⟩⟩
 have hl := _root_.Go.Lib.itoa_length_le n hx.1 hx.2
 show (_root_.Go.Lib.itoa n).toArray.size <= _
 simp; omega

def E24 := en [(52, sp52)] []
def A24 : Fn [.I] As := fun a => [aI a]
def k24 : Fn [.S] Res := fun a => ⟨[aS a], []⟩
def sp24 := spf A24 k24 U24.c U24.v
theorem ok24 : FO 24 sp24 := fr (E := E24) (call_cons ok52 call_nil) func24 U24.b U24.vo

def E25 := en [] []
def A25 : Fn [.I] As := fun a => [aI a]
def k25 : Fn [.S] Res := fun a => ⟨[aS a], []⟩
def sp25 := spf A25 k25 (ct _) U25.v
theorem ok25 : FO 25 sp25 := ft (E := E25) call_nil func25 U25.b fun (a0, _) => U25.b_eq _ a0

def E8 := en [(24, sp24), (25, sp25)] [(3, [3, 7, 8, 9])]
def A8 : Fn [.I, .R, .R, .R, .R, .I, .R, .R, .I] As := fun a b c d e f g h i => [aV [.n a, .sh 89 b, .sh 9 c, .sh 9 d, .sh 70 e, .n f, .sh 93 g, .sh 57 h, .n i]]
def k8 : Fn [.S] Res := fun a => ⟨[aS a], []⟩
def T8_3 : Fn [.S, .R, .I, .I] Tb := fun a b c d => [cA 6 (.s a), cH 14 57 b, cI 16 c, cI 18 d]
def L8_3 (N : Nat) (K : Kt R) := U8.l3 N (J T8_3 (.exit 0) K)
def it8 (N : Nat) : It R := (lp 3 (al T8_3 (fun K => L8_3 N K N) an) ln)
theorem lo8_3 (N : Nat) : LoopOk E8 (it8 N (R := R)) (loopOf f8 3) := lq 3 T8_3 (L8_3 N) fun K g => U8.r3 N g (J T8_3 (.exit 0) K)
def sp8 := spf A8 k8 U8.c U8.v
theorem ok8 : FO 8 sp8 := fq (E := E8) (call_cons ok24 (call_cons ok25 call_nil)) func8 (it := fun N => it8 N) (fun N => (loops_cons (lo8_3 N) loops_nil)) U8.b U8.vo

def E53 := en [] []
def A53 : Fn [.S, .I, .I, .S, .S, .I, .I, .S] As := fun a b c d e f g h => [aV [.s a, .n b, .n c, .s d], aV [.s e, .n f, .n g, .s h]]
def k53 : Fn [.B] Res := fun a => ⟨[aB a], []⟩
def sp53 := spf A53 k53 (ct _) U53.v
theorem ok53 : FO 53 sp53 := ft (E := E53) call_nil func53 U53.b fun (a0, a1, a2, a3, a4, a5, a6, a7, _) => U53.b_eq _ a0 a1 a2 a3 a4 a5 a6 a7

def E26 := en [(53, sp53)] [(4, [0, 1, 4, 5])]
def A26 : Fn [.R, .R] As := fun a b => [aH 89 a, aH 89 b]
def k26 : Fn [.B] Res := fun a => ⟨[aB a], []⟩
def T26_4 : Fn [.R, .R, .B, .I] Tb := fun a b c d => [cH 0 89 a, cH 2 89 b, cA 8 (.b c), cI 10 d]
def L26_4 (N : Nat) (K : Kt R) := U26.l4 N (J T26_4 .ret K) (J T26_4 (.exit 0) K)
def it26 (N : Nat) : It R := (lp 4 (al T26_4 (fun K => L26_4 N K N) an) ln)
theorem lo26_4 (N : Nat) : LoopOk E26 (it26 N (R := R)) (loopOf f26 4) := lq 4 T26_4 (L26_4 N) fun K g => U26.r4 N g (J T26_4 .ret K) (J T26_4 (.exit 0) K)
def sp26 := spf A26 k26 U26.c U26.v
theorem ok26 : FO 26 sp26 := fq (E := E26) (call_cons ok53 call_nil) func26 (it := fun N => it26 N) (fun N => (loops_cons (lo26_4 N) loops_nil)) U26.b U26.vo

def E54 := en [] [(4, [0, 1, 4, 5])]
def A54 : Fn [.R, .R] As := fun a b => [aH 9 a, aH 9 b]
def k54 : Fn [.B] Res := fun a => ⟨[aB a], []⟩
def T54_4 : Fn [.R, .R, .B, .I] Tb := fun a b c d => [cH 0 9 a, cH 2 9 b, cA 8 (.b c), cI 10 d]
def L54_4 (N : Nat) (K : Kt R) := U54.l4 N (J T54_4 .ret K) (J T54_4 (.exit 0) K)
def it54 (N : Nat) : It R := (lp 4 (al T54_4 (fun K => L54_4 N K N) an) ln)
theorem lo54_4 (N : Nat) : LoopOk E54 (it54 N (R := R)) (loopOf f54 4) := lq 4 T54_4 (L54_4 N) fun K g => U54.r4 N g (J T54_4 .ret K) (J T54_4 (.exit 0) K)
def sp54 := spf A54 k54 U54.c U54.v
theorem ok54 : FO 54 sp54 := fq (E := E54) call_nil func54 (it := fun N => it54 N) (fun N => (loops_cons (lo54_4 N) loops_nil)) U54.b U54.vo

def E66 := en [] [(4, [0, 1, 4, 5])]
def A66 : Fn [.R, .R] As := fun a b => [aH 3 a, aH 3 b]
def k66 : Fn [.B] Res := fun a => ⟨[aB a], []⟩
def T66_4 : Fn [.R, .R, .B, .I] Tb := fun a b c d => [cH 0 3 a, cH 2 3 b, cA 8 (.b c), cI 10 d]
def L66_4 (N : Nat) (K : Kt R) := U66.l4 N (J T66_4 .ret K) (J T66_4 (.exit 0) K)
def it66 (N : Nat) : It R := (lp 4 (al T66_4 (fun K => L66_4 N K N) an) ln)
theorem lo66_4 (N : Nat) : LoopOk E66 (it66 N (R := R)) (loopOf f66 4) := lq 4 T66_4 (L66_4 N) fun K g => U66.r4 N g (J T66_4 .ret K) (J T66_4 (.exit 0) K)
def sp66 := spf A66 k66 (ct _) U66.v
theorem ok66 : FO 66 sp66 := fh (E := E66) call_nil func66 (it := fun N => it66 N) (fun N => (loops_cons (lo66_4 N) loops_nil)) U66.b fun x f h => U66.b_eq _ x.1 x.2.1 f.1.1 f.2.1.1

def E71 := en [(66, sp66)] [(4, [0, 1, 4, 5])]
def A71 : Fn [.R, .R] As := fun a b => [aH 70 a, aH 70 b]
def k71 : Fn [.B] Res := fun a => ⟨[aB a], []⟩
def T71_4 : Fn [.R, .R, .B, .I] Tb := fun a b c d => [cH 0 70 a, cH 2 70 b, cA 8 (.b c), cI 10 d]
def L71_4 (N : Nat) (K : Kt R) := U71.l4 N (J T71_4 .ret K) (J T71_4 (.exit 0) K)
def it71 (N : Nat) : It R := (lp 4 (al T71_4 (fun K => L71_4 N K N) an) ln)
theorem lo71_4 (N : Nat) : LoopOk E71 (it71 N (R := R)) (loopOf f71 4) := lq 4 T71_4 (L71_4 N) fun K g => U71.r4 N g (J T71_4 .ret K) (J T71_4 (.exit 0) K)
def sp71 := spf A71 k71 U71.c U71.v
theorem ok71 : FO 71 sp71 := fq (E := E71) (call_cons ok66 call_nil) func71 (it := fun N => it71 N) (fun N => (loops_cons (lo71_4 N) loops_nil)) U71.b U71.vo

def E55 := en [(71, sp71)] []
def A55 : Fn [.R, .I, .R, .I] As := fun a b c d => [aV [.sh 70 a, .n b], aV [.sh 70 c, .n d]]
def k55 : Fn [.B] Res := fun a => ⟨[aB a], []⟩
def sp55 := spf A55 k55 U55.c U55.v
theorem ok55 : FO 55 sp55 := fr (E := E55) (call_cons ok71 call_nil) func55 U55.b U55.vo

def E27 := en [(54, sp54), (55, sp55)] []
def A27 : Fn [.R, .R, .R, .I, .R, .R, .R, .I] As := fun a b c d e f g h => [aV [.sh 9 a, .sh 9 b, .sh 70 c, .n d], aV [.sh 9 e, .sh 9 f, .sh 70 g, .n h]]
def k27 : Fn [.B] Res := fun a => ⟨[aB a], []⟩
def sp27 := spf A27 k27 U27.c U27.v
theorem ok27 : FO 27 sp27 := fr (E := E27) (call_cons ok54 (call_cons ok55 call_nil)) func27 U27.b U27.vo

def E56 := en [] []
def A56 : Fn [.S, .S, .I, .I, .I, .S, .S, .I, .I, .I] As := fun a b c d e f g h i j => [aV [.s a, .s b, .n c, .n d, .n e], aV [.s f, .s g, .n h, .n i, .n j]]
def k56 : Fn [.B] Res := fun a => ⟨[aB a], []⟩
def sp56 := spf A56 k56 (ct _) U56.v
theorem ok56 : FO 56 sp56 := ft (E := E56) call_nil func56 U56.b fun (a0, a1, a2, a3, a4, a5, a6, a7, a8, a9, _) => U56.b_eq _ a0 a1 a2 a3 a4 a5 a6 a7 a8 a9

def E28 := en [(56, sp56)] [(4, [0, 1, 4, 5])]
def A28 : Fn [.R, .R] As := fun a b => [aH 93 a, aH 93 b]
def k28 : Fn [.B] Res := fun a => ⟨[aB a], []⟩
def T28_4 : Fn [.R, .R, .B, .I] Tb := fun a b c d => [cH 0 93 a, cH 2 93 b, cA 8 (.b c), cI 10 d]
def L28_4 (N : Nat) (K : Kt R) := U28.l4 N (J T28_4 .ret K) (J T28_4 (.exit 0) K)
def it28 (N : Nat) : It R := (lp 4 (al T28_4 (fun K => L28_4 N K N) an) ln)
theorem lo28_4 (N : Nat) : LoopOk E28 (it28 N (R := R)) (loopOf f28 4) := lq 4 T28_4 (L28_4 N) fun K g => U28.r4 N g (J T28_4 .ret K) (J T28_4 (.exit 0) K)
def sp28 := spf A28 k28 U28.c U28.v
theorem ok28 : FO 28 sp28 := fq (E := E28) (call_cons ok56 call_nil) func28 (it := fun N => it28 N) (fun N => (loops_cons (lo28_4 N) loops_nil)) U28.b U28.vo

def E57 := en [] []
def A57 : Fn [.I, .S, .I, .I, .I, .S, .I, .I, .S, .I, .I, .I, .S, .I] As := fun a b c d e f g h i j k l m o => [aV [.n a, .s b, .n c, .n d, .n e, .s f, .n g], aV [.n h, .s i, .n j, .n k, .n l, .s m, .n o]]
def k57 : Fn [.B] Res := fun a => ⟨[aB a], []⟩
def sp57 := spf A57 k57 (ct _) U57.v
theorem ok57 : FO 57 sp57 := ft (E := E57) call_nil func57 U57.b fun (a0, a1, a2, a3, a4, a5, a6, a7, a8, a9, a10, a11, a12, a13, _) => U57.b_eq _ a0 a1 a2 a3 a4 a5 a6 a7 a8 a9 a10 a11 a12 a13

def E29 := en [(57, sp57)] [(4, [0, 1, 4, 5])]
def A29 : Fn [.R, .R] As := fun a b => [aH 57 a, aH 57 b]
def k29 : Fn [.B] Res := fun a => ⟨[aB a], []⟩
def T29_4 : Fn [.R, .R, .B, .I] Tb := fun a b c d => [cH 0 57 a, cH 2 57 b, cA 8 (.b c), cI 10 d]
def L29_4 (N : Nat) (K : Kt R) := U29.l4 N (J T29_4 .ret K) (J T29_4 (.exit 0) K)
def it29 (N : Nat) : It R := (lp 4 (al T29_4 (fun K => L29_4 N K N) an) ln)
theorem lo29_4 (N : Nat) : LoopOk E29 (it29 N (R := R)) (loopOf f29 4) := lq 4 T29_4 (L29_4 N) fun K g => U29.r4 N g (J T29_4 .ret K) (J T29_4 (.exit 0) K)
def sp29 := spf A29 k29 U29.c U29.v
theorem ok29 : FO 29 sp29 := fq (E := E29) (call_cons ok57 call_nil) func29 (it := fun N => it29 N) (fun N => (loops_cons (lo29_4 N) loops_nil)) U29.b U29.vo

def E9 := en [(26, sp26), (27, sp27), (28, sp28), (29, sp29)] []
def A9 : Fn [.I, .R, .R, .R, .R, .I, .R, .R, .I, .I, .R, .R, .R, .R, .I, .R, .R, .I] As := fun a b c d e f g h i j k l m o p q r s => [aV [.n a, .sh 89 b, .sh 9 c, .sh 9 d, .sh 70 e, .n f, .sh 93 g, .sh 57 h, .n i], aV [.n j, .sh 89 k, .sh 9 l, .sh 9 m, .sh 70 o, .n p, .sh 93 q, .sh 57 r, .n s]]
def k9 : Fn [.B] Res := fun a => ⟨[aB a], []⟩
def sp9 := spf A9 k9 U9.c U9.v
theorem ok9 : FO 9 sp9 := fr (E := E9) (call_cons ok26 (call_cons ok27 (call_cons ok28 (call_cons ok29 call_nil)))) func9 U9.b U9.vo

def E3 := en [(5, sp5), (7, sp7), (6, sp6), (8, sp8), (9, sp9)] []
def A3 : Fn [.I, .R, .R, .R, .R, .I, .R, .R, .I] As := fun a b c d e f g h i => [aV [.n a, .sh 81 b, .sh 9 c, .sh 9 d, .sh 70 e, .n f, .sh 86 g, .sh 88 h, .n i]]
def k3 : Fn [.B] Res := fun a => ⟨[aB a], []⟩
def sp3 := spf A3 k3 U3.c U3.v
theorem ok3 : FO 3 sp3 := fr (E := E3) (call_cons ok5 (call_cons ok7 (call_cons ok6 (call_cons ok8 (call_cons ok9 call_nil))))) func3 U3.b U3.vo

end Go.FG.Se
