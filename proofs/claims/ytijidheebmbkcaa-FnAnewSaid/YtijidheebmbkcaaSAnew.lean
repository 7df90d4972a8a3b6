/- Functions of the program: the evaluation of each, and that a call of it does what is told. No condition. -/
import Derived.Test.YtijidheebmbkcaaTab
import Derived.Test.YtijidheebmbkcaaPAnew
import Derived.Test.YtijidheebmbkcaaIns
set_option linter.unusedVariables false
set_option linter.unusedSimpArgs false
set_option maxRecDepth 100000
namespace Go.FG.Se
open Go.Proofs
def E11 := en [] []
def A11 : Fn [.R] As := fun a => [aH 5 a]
def k11 : Fn [.B] Res := fun a => ⟨[aB a], []⟩
def sp11 := spf A11 k11 (ct _) U11.v
theorem ok11 : FnOk Try.prog T 11 sp11 := ft (E := E11) call_nil Try.func11 U11.b fun (a0, _) => U11.b_eq _ a0

def E52 := en [] [(3, [0, 3, 4])]
def A52 : Fn [.R] As := fun a => [aH 5 a]
def k52 : Fn [.R, .I, .I] Res := fun a b c => ⟨[.pt [.sh 5 a, .n b, .n c]], []⟩
def T52_3 : Fn [.R, .I, .I] Tb := fun a b c => [cH 0 5 a, cI 6 b, cI 8 c]
def L52_3 (N : Nat) {R : Type} (K : Kt R) := U52.l3 N (J T52_3 (.exit 0) K)
def it52 (N : Nat) {R : Type} : It R := (lp 3 (al T52_3 (fun K => L52_3 N K N) an) ln)
theorem lo52_3 {R : Type} (N : Nat) : LoopOk E52 (it52 N (R := R)) (loopOf Try.f52 3) := lq 3 T52_3 (L52_3 N) fun K g => U52.r3 N g (J T52_3 (.exit 0) K)
def sp52 := spf A52 k52 U52.c U52.v
theorem ok52 : FnOk Try.prog T 52 sp52 := fq (E := E52) call_nil Try.func52 (it := fun N => it52 N) (fun N => (loops_cons (lo52_3 N) loops_nil)) U52.b U52.vo

def E58 := en [] []
def A58 : Fn [.R, .I, .I] As := fun a b c => [.pt [.sh 5 a, .n b, .n c]]
def k58 : Fn [.I, .R, .I, .I] Res := fun a b c d => ⟨[aI a], [[.sh 5 b, .n c, .n d]]⟩
def sp58 := spf A58 k58 U58.c U58.v
theorem ok58 : FnOk Try.prog T 58 sp58 := fr (E := E58) call_nil Try.func58 U58.b U58.vo

def E59 := en [(58, sp58)] []
def A59 : Fn [.R, .I, .I, .I] As := fun a b c d => [.pt [.sh 5 a, .n b, .n c], aI d]
def k59 : Fn [.I, .R, .I, .I] Res := fun a b c d => ⟨[aI a], [[.sh 5 b, .n c, .n d]]⟩
def sp59 := spf A59 k59 U59.c U59.v
theorem ok59 : FnOk Try.prog T 59 sp59 := fr (E := E59) (call_cons ok58 call_nil) Try.func59 U59.b U59.vo

def E164 := en [(59, sp59)] []
def A164 : Fn [.R, .I, .I, .R] As := fun a b c d => [.pt [.sh 5 a, .n b, .n c], aO 9 d]
def k164 : Fn [.S, .R, .I, .I, .R] Res := fun a b c d e => ⟨[aS a], [[.sh 5 b, .n c, .n d], [.kp e]]⟩
def sp164 := spf A164 k164 U164.c U164.v
theorem ok164 : FnOk Try.prog T 164 sp164 := fr (E := E164) (call_cons ok59 call_nil) Try.func164 U164.b U164.vo

def E161 := en [(164, sp164)] []
def A161 : Fn [.R, .I, .I] As := fun a b c => [.pt [.sh 5 a, .n b, .n c]]
def k161 : Fn [.S, .R, .I, .I] Res := fun a b c d => ⟨[aS a], [[.sh 5 b, .n c, .n d]]⟩
def sp161 := spf A161 k161 U161.c U161.v
theorem ok161 : FnOk Try.prog T 161 sp161 := fr (E := E161) (call_cons ok164 call_nil) Try.func161 U161.b U161.vo

def E162 := en [(59, sp59)] []
def A162 : Fn [.R, .I, .I, .R] As := fun a b c d => [.pt [.sh 5 a, .n b, .n c], aO 3 d]
def k162 : Fn [.I, .R, .I, .I, .R] Res := fun a b c d e => ⟨[aI a], [[.sh 5 b, .n c, .n d], [.kp e]]⟩
def sp162 := spf A162 k162 U162.c U162.v
theorem ok162 : FnOk Try.prog T 162 sp162 := fr (E := E162) (call_cons ok59 call_nil) Try.func162 U162.b U162.vo

def E163 := en [(58, sp58)] [(5, [0, 1, 5, 6])]
def A163 : Fn [.R, .I, .I, .I] As := fun a b c d => [.pt [.sh 5 a, .n b, .n c], aI d]
def k163 : Fn [.S, .R, .I, .I] Res := fun a b c d => ⟨[aS a], [[.sh 5 b, .n c, .n d]]⟩
def T163_5 : Fn [.I, .I, .R, .I, .I, .R] Tb := fun a b c d e f => [cP 0 900000900, cI 2 a, cA 10 (.own 1), cI 12 b, oB 1800001801 [.sh 5 c, .n d, .n e], oR 3 5 f]
def L163_5 (N : Nat) {R : Type} (K : Kt R) := U163.l5 N (J T163_5 (.exit 0) K)
def it163 (N : Nat) {R : Type} : It R := (lp 5 (al T163_5 (fun K => L163_5 N K N) an) ln)
theorem lo163_5 {R : Type} (N : Nat) : LoopOk E163 (it163 N (R := R)) (loopOf Try.f163 5) := lq 5 T163_5 (L163_5 N) fun K g => U163.r5 N g (J T163_5 (.exit 0) K)
def sp163 := spf A163 k163 U163.c U163.v
theorem ok163 : FnOk Try.prog T 163 sp163 := fq (E := E163) (call_cons ok58 call_nil) Try.func163 (it := fun N => it163 N) (fun N => (loops_cons (lo163_5 N) loops_nil)) U163.b U163.vo

def E72 := en [(161, sp161), (59, sp59), (162, sp162), (163, sp163)] []
def A72 : Fn [.R, .I, .I] As := fun a b c => [.pt [.sh 5 a, .n b, .n c]]
def k72 : Fn [.S, .I, .I, .S, .R, .I, .I] Res := fun a b c d e f g => ⟨[aV [.s a, .n b, .n c, .s d]], [[.sh 5 e, .n f, .n g]]⟩
def sp72 := spf A72 k72 U72.c U72.v
theorem ok72 : FnOk Try.prog T 72 sp72 := fr (E := E72) (call_cons ok161 (call_cons ok59 (call_cons ok162 (call_cons ok163 call_nil)))) Try.func72 U72.b U72.vo

def E122 := en [] []
def A122 : Fn [.I, .I, .I] As := fun a b c => [aI a, aI b, aI c]
def k122 : Fn [.B] Res := fun a => ⟨[aB a], []⟩
def sp122 := spf A122 k122 (ct _) U122.v
theorem ok122 : FnOk Try.prog T 122 sp122 := ft (E := E122) call_nil Try.func122 U122.b fun (a0, a1, a2, _) => U122.b_eq _ a0 a1 a2

def E101 := en [(122, sp122)] []
def A101 : Fn [.S] As := fun a => [aS a]
def k101 : Fn [.B] Res := fun a => ⟨[aB a], []⟩
def sp101 := spf A101 k101 (ct _) U101.v
theorem ok101 : FnOk Try.prog T 101 sp101 := ft (E := E101) (call_cons ok122 call_nil) Try.func101 U101.b fun (a0, _) => U101.b_eq _ a0

def E149 := en [(101, sp101), (122, sp122)] []
def A149 : Fn [.S, .I, .I, .S] As := fun a b c d => [aV [.s a, .n b, .n c, .s d]]
def k149 : Fn [.B] Res := fun a => ⟨[aB a], []⟩
def sp149 := spf A149 k149 (ct _) U149.v
theorem ok149 : FnOk Try.prog T 149 sp149 := ft (E := E149) (call_cons ok101 (call_cons ok122 call_nil)) Try.func149 U149.b fun (a0, a1, a2, a3, _) => U149.b_eq _ a0 a1 a2 a3

def E150 := en [] [(2, [0, 3])]
def A150 : Fn [.I] As := fun a => [aI a]
def k150 : Fn [.S] Res := fun a => ⟨[aS a], []⟩
def T150_2 : Fn [.I, .R] Tb := fun a b => [cI 0 a, cA 6 (.own 0), oR 1 5 b]
def L150_2 (N : Nat) {R : Type} (K : Kt R) := U150.l2 N (J T150_2 (.exit 0) K)
def it150 (N : Nat) {R : Type} : It R := (lp 2 (al T150_2 (fun K => L150_2 N K N) an) ln)
theorem lo150_2 {R : Type} (N : Nat) : LoopOk E150 (it150 N (R := R)) (loopOf Try.f150 2) := lq 2 T150_2 (L150_2 N) fun K g => U150.r2 N g (J T150_2 (.exit 0) K)
def sp150 := spf A150 k150 U150.c U150.v
theorem ok150 : FnOk Try.prog T 150 sp150 := fh (E := E150) call_nil Try.func150 (it := fun N => it150 N) (fun N => (loops_cons (lo150_2 N) loops_nil)) U150.b fun x f h => U150.b_eq _ x.1 h

def E63 := en [(149, sp149), (150, sp150)] []
def A63 : Fn [.S, .I, .I, .S] As := fun a b c d => [aV [.s a, .n b, .n c, .s d]]
def k63 : Fn [.S, .B] Res := fun a b => ⟨[aS a, aB b], []⟩
def sp63 := spf A63 k63 (ct _) U63.v
theorem ok63 : FnOk Try.prog T 63 sp63 := fh (E := E63) (call_cons ok149 (call_cons ok150 call_nil)) Try.func63 (it := fun _ => ln) (fun _ => loops_nil) (fun _ => U63.b) fun x f h => ⟨0, U63.b_eq _ x.1 x.2.1 x.2.2.1 x.2.2.2.1⟩

def E212 := en [] [(2, [0, 1, 5]), (6, [0, 1, 5, 6])]
def A212 : Fn [.I, .S] As := fun a b => [.v false [.i .u32 a], aS b]
def k212 : Fn [.I] Res := fun a => ⟨[.v false [.i .u32 a]], []⟩
def T212_2 : Fn [.I, .S, .I] Tb := fun a b c => [cA 0 (.i .u32 a), cA 2 (.s b), cI 10 c]
def T212_6 : Fn [.I, .S, .I, .I] Tb := fun a b c d => [cA 0 (.i .u32 a), cA 2 (.s b), cI 10 c, cI 12 d]
def L212_2 (N : Nat) {R : Type} (K : Kt R) := U212.l2 N (J T212_2 (.exit 0) K)
def L212_6 (N : Nat) {R : Type} (K : Kt R) := U212.l6 N (J T212_6 (.exit 2) K)
def it212 (N : Nat) {R : Type} : It R := (lp 2 (al T212_2 (fun K => L212_2 N K N) an) (lp 6 (al T212_6 (fun K => L212_6 N K N) an) ln))
theorem lo212_2 {R : Type} (N : Nat) : LoopOk E212 (it212 N (R := R)) (loopOf Try.f212 2) := lq 2 T212_2 (L212_2 N) fun K g => U212.r2 N g (J T212_2 (.exit 0) K)
theorem lo212_6 {R : Type} (N : Nat) : LoopOk E212 (it212 N (R := R)) (loopOf Try.f212 6) := lq 6 T212_6 (L212_6 N) fun K g => U212.r6 N g (J T212_6 (.exit 2) K)
def sp212 := spf A212 k212 U212.c U212.v
theorem ok212 : FnOk Try.prog T 212 sp212 := fq (E := E212) call_nil Try.func212 (it := fun N => it212 N) (fun N => (loops_cons (lo212_2 N) (loops_cons (lo212_6 N) loops_nil))) U212.b U212.vo

def E152 := en [(212, sp212)] []
def A152 : Fn [.S] As := fun a => [aS a]
def k152 : Fn [.I] Res := fun a => ⟨[.v false [.i .u32 a]], []⟩
def sp152 := spf A152 k152 U152.c U152.v
theorem ok152 : FnOk Try.prog T 152 sp152 := fr (E := E152) (call_cons ok212 call_nil) Try.func152 U152.b U152.vo

def E151 := en [] []
def A151 : Fn [.I] As := fun a => [.v false [.i .u32 a]]
def k151 : Fn [.S] Res := fun a => ⟨[aS a], []⟩
def sp151 := spf A151 k151 (ct _) U151.v
theorem ok151 : FnOk Try.prog T 151 sp151 := ft (E := E151) call_nil Try.func151 U151.b fun (a0, _) => U151.b_eq _ a0

def E64 := en [(122, sp122), (150, sp150), (152, sp152), (151, sp151)] []
def A64 : Fn [.S] As := fun a => [aS a]
def k64 : Fn [.S, .B] Res := fun a b => ⟨[aS a, aB b], []⟩
def sp64 := spf A64 k64 U64.c U64.v
theorem ok64 : FnOk Try.prog T 64 sp64 := fr (E := E64) (call_cons ok122 (call_cons ok150 (call_cons ok152 (call_cons ok151 call_nil)))) Try.func64 U64.b U64.vo

def E140 := en [(63, sp63), (64, sp64)] []
def A140 : Fn [.S, .I, .I, .S] As := fun a b c d => [aV [.s a, .n b, .n c, .s d]]
def k140 : Fn [.R, .B] Res := fun a b => ⟨[aO 106 a, aB b], []⟩
def sp140 := spf A140 k140 U140.c U140.v
theorem ok140 : FnOk Try.prog T 140 sp140 := fr (E := E140) (call_cons ok63 (call_cons ok64 call_nil)) Try.func140 U140.b U140.vo

def E142 := en [(122, sp122)] []
def A142 : Fn [.S] As := fun a => [aS a]
def k142 : Fn [.B] Res := fun a => ⟨[aB a], []⟩
def sp142 := spf A142 k142 (ct _) U142.v
theorem ok142 : FnOk Try.prog T 142 sp142 := ft (E := E142) (call_cons ok122 call_nil) Try.func142 U142.b fun (a0, _) => U142.b_eq _ a0

def E53 := en [(142, sp142), (122, sp122)] [(4, [1, 2, 3])]
def A53 : Fn [.R] As := fun a => [aV [.sh 159 a]]
def k53 : Fn [.B] Res := fun a => ⟨[aB a], []⟩
def T53_4 : Fn [.B, .I, .R] Tb := fun a b c => [cP 2 0, cA 4 (.b a), cI 6 b, oB 1 [.sh 159 c]]
def L53_4 (N : Nat) {R : Type} (K : Kt R) := U53.l4 N (J T53_4 .ret K) (J T53_4 (.exit 0) K)
def it53 (N : Nat) {R : Type} : It R := (lp 4 (al T53_4 (fun K => L53_4 N K N) an) ln)
theorem lo53_4 {R : Type} (N : Nat) : LoopOk E53 (it53 N (R := R)) (loopOf Try.f53 4) := lq 4 T53_4 (L53_4 N) fun K g => U53.r4 N g (J T53_4 .ret K) (J T53_4 (.exit 0) K)
def sp53 := spf A53 k53 U53.c U53.v
theorem ok53 : FnOk Try.prog T 53 sp53 := fq (E := E53) (call_cons ok142 (call_cons ok122 call_nil)) Try.func53 (it := fun N => it53 N) (fun N => (loops_cons (lo53_4 N) loops_nil)) U53.b U53.vo

def E143 := en [] [(2, [1, 2, 4, 5])]
def A143 : Fn [.R, .S] As := fun a b => [aV [.sh 159 a], aS b]
def k143 : Fn [.I] Res := fun a => ⟨[aI a], []⟩
def T143_2 : Fn [.S, .I, .I, .R] Tb := fun a b c d => [cA 2 (.s a), cP 4 0, cI 8 b, cI 10 c, oB 1 [.sh 159 d]]
def L143_2 (N : Nat) {R : Type} (K : Kt R) := U143.l2 N (J T143_2 .ret K) (J T143_2 (.exit 0) K)
def it143 (N : Nat) {R : Type} : It R := (lp 2 (al T143_2 (fun K => L143_2 N K N) an) ln)
theorem lo143_2 {R : Type} (N : Nat) : LoopOk E143 (it143 N (R := R)) (loopOf Try.f143 2) := lq 2 T143_2 (L143_2 N) fun K g => U143.r2 N g (J T143_2 .ret K) (J T143_2 (.exit 0) K)
def sp143 := spf A143 k143 U143.c U143.v
theorem ok143 : FnOk Try.prog T 143 sp143 := fq (E := E143) call_nil Try.func143 (it := fun N => it143 N) (fun N => (loops_cons (lo143_2 N) loops_nil)) U143.b U143.vo

def E166 := en [] [(3, [2, 3, 4, 5, 6]), (9, [2, 3, 4, 5, 7])]
def A166 : Fn [.R, .S, .S, .I] As := fun a b c d => [aV [.sh 159 a], aV [.s b, .s c, .n d]]
def k166 : Fn [.R] Res := fun a => ⟨[aV [.ow 159 true a]], []⟩
def T166_3 : Fn [.I, .R, .S, .S, .I] Tb := fun a b c d e => [cP 4 0, cP 6 1, cP 8 2, cP 10 3, cI 12 a, oB 1 [.sh 159 b], oB 3 [.s c, .s d, .n e], oB 5 [.nl], oB 7 [.nl]]
def T166_3a : Fn [.I, .R, .S, .S, .I, .R] Tb := fun a b c d e f => [cP 4 0, cP 6 1, cP 8 2, cP 10 3, cI 12 a, oB 1 [.sh 159 b], oB 3 [.s c, .s d, .n e], oB 5 [.nl], oB 7 [.own 4], oR 9 159 f]
def T166_9 : Fn [.I, .R, .S, .S, .I, .R] Tb := fun a b c d e f => [cP 4 0, cP 6 1, cP 8 2, cP 10 3, cI 14 a, oB 1 [.sh 159 b], oB 3 [.s c, .s d, .n e], oB 5 [.nl], oB 7 [.own 4], oR 9 159 f]
def L166_3 (N : Nat) {R : Type} (K : Kt R) := U166.l3 N (J T166_3 (.exit 0) K) (J T166_3a (.exit 0) K)
def L166_3a (N : Nat) {R : Type} (K : Kt R) := U166.l3a N (J T166_3 (.exit 0) K) (J T166_3a (.exit 0) K)
def L166_9 (N : Nat) {R : Type} (K : Kt R) := U166.l9 N (J T166_9 (.exit 2) K)
def it166 (N : Nat) {R : Type} : It R := (lp 3 (al T166_3 (fun K => L166_3 N K N) (al T166_3a (fun K => L166_3a N K N) an)) (lp 9 (al T166_9 (fun K => L166_9 N K N) an) ln))
theorem w166_3a {R : Type} (N : Nat) (K : Kt R) : Wd E166 (it166 N) (loopOf Try.f166 3) 3 K T166_3a (L166_3a N K) := lw (fun g => U166.r3a N (cmp _ T166_3 (g ∘ tabl)) (cmp _ T166_3a (g ∘ tabl)) (J T166_3 (.exit 0) K) (J T166_3a (.exit 0) K)) fun m i => by simp only [Function.comp_def, wf i]; rfl
theorem w166_3 {R : Type} (N : Nat) (K : Kt R) : Wd E166 (it166 N) (loopOf Try.f166 3) 3 K T166_3 (L166_3 N K) := lw (fun g => U166.r3 N (cmp _ T166_3 (g ∘ tabl)) (cmp _ T166_3a (g ∘ tabl)) (J T166_3 (.exit 0) K) (J T166_3a (.exit 0) K)) fun m i => by simp only [Function.comp_def, wf i, wf (w166_3a N K m)]; rfl
theorem lo166_3 {R : Type} (N : Nat) : LoopOk E166 (it166 N (R := R)) (loopOf Try.f166 3) := lm 3 (ga T166_3 (w166_3 N) (ga T166_3a (w166_3a N) good_an))
theorem lo166_9 {R : Type} (N : Nat) : LoopOk E166 (it166 N (R := R)) (loopOf Try.f166 9) := lq 9 T166_9 (L166_9 N) fun K g => U166.r9 N g (J T166_9 (.exit 2) K)
def sp166 := spf A166 k166 U166.c U166.v
theorem ok166 : FnOk Try.prog T 166 sp166 := fq (E := E166) call_nil Try.func166 (it := fun N => it166 N) (fun N => (loops_cons (lo166_3 N) (loops_cons (lo166_9 N) loops_nil))) U166.b U166.vo

def E167 := en [] [(3, [1, 2, 4, 5, 6])]
def A167 : Fn [.R, .S] As := fun a b => [aV [.sh 159 a], aS b]
def k167 : Fn [.R] Res := fun a => ⟨[aV [.ow 159 true a]], []⟩
def T167_3 : Fn [.S, .I, .R] Tb := fun a b c => [cA 2 (.s a), cP 4 0, cP 8 1, cP 10 2, cI 12 b, oB 1 [.sh 159 c], oB 3 [.nl], oB 5 [.nl]]
def T167_3a : Fn [.S, .I, .R, .R] Tb := fun a b c d => [cA 2 (.s a), cP 4 0, cP 8 1, cP 10 2, cI 12 b, oB 1 [.sh 159 c], oB 3 [.nl], oB 5 [.own 3], oR 7 159 d]
def L167_3 (N : Nat) {R : Type} (K : Kt R) := U167.l3 N (J T167_3 (.exit 0) K) (J T167_3a (.exit 0) K)
def L167_3a (N : Nat) {R : Type} (K : Kt R) := U167.l3a N (J T167_3 (.exit 0) K) (J T167_3a (.exit 0) K)
def it167 (N : Nat) {R : Type} : It R := (lp 3 (al T167_3 (fun K => L167_3 N K N) (al T167_3a (fun K => L167_3a N K N) an)) ln)
theorem w167_3a {R : Type} (N : Nat) (K : Kt R) : Wd E167 (it167 N) (loopOf Try.f167 3) 3 K T167_3a (L167_3a N K) := lw (fun g => U167.r3a N (cmp _ T167_3 (g ∘ tabl)) (cmp _ T167_3a (g ∘ tabl)) (J T167_3 (.exit 0) K) (J T167_3a (.exit 0) K)) fun m i => by simp only [Function.comp_def, wf i]; rfl
theorem w167_3 {R : Type} (N : Nat) (K : Kt R) : Wd E167 (it167 N) (loopOf Try.f167 3) 3 K T167_3 (L167_3 N K) := lw (fun g => U167.r3 N (cmp _ T167_3 (g ∘ tabl)) (cmp _ T167_3a (g ∘ tabl)) (J T167_3 (.exit 0) K) (J T167_3a (.exit 0) K)) fun m i => by simp only [Function.comp_def, wf i, wf (w167_3a N K m)]; rfl
theorem lo167_3 {R : Type} (N : Nat) : LoopOk E167 (it167 N (R := R)) (loopOf Try.f167 3) := lm 3 (ga T167_3 (w167_3 N) (ga T167_3a (w167_3a N) good_an))
def sp167 := spf A167 k167 U167.c U167.v
theorem ok167 : FnOk Try.prog T 167 sp167 := fq (E := E167) call_nil Try.func167 (it := fun N => it167 N) (fun N => (loops_cons (lo167_3 N) loops_nil)) U167.b U167.vo

def E74 := en [(53, sp53), (142, sp142), (143, sp143), (166, sp166), (167, sp167)] []
def A74 : Fn [.R, .I, .S, .S, .S] As := fun a b c d e => [aV [.sh 159 a], aV [.n b, .s c, .s d, .s e]]
def k74 : Fn [.R, .B] Res := fun a b => ⟨[aV [.ow 159 true a], aB b], []⟩
def sp74 := spf A74 k74 U74.c U74.v
theorem ok74 : FnOk Try.prog T 74 sp74 := fr (E := E74) (call_cons ok53 (call_cons ok142 (call_cons ok143 (call_cons ok166 (call_cons ok167 call_nil))))) Try.func74 U74.b U74.vo

def E141 := en [(74, sp74)] [(3, [1, 4, 5, 6, 7])]
def A141 : Fn [.R, .R] As := fun a b => [aV [.sh 159 a], aH 106 b]
def k141 : Fn [.R, .I] Res := fun a b => ⟨[aV [.ow 159 true a], aI b], []⟩
def T141_3 : Fn [.R, .I, .I, .R] Tb := fun a b c d => [cH 2 106 a, cP 8 0, cI 10 b, cP 12 1, cI 14 c, oB 1 [.nl], oB 3 [.own 2], oR 5 159 d]
def Y141_3_0 : Fn [.R, .I, .I, .R] Tb := fun a b c d => [cH 2 106 a, cP 8 0, cI 10 b, cP 12 1, cI 14 c, oB 1 [.own 2], oB 3 [.own 2], oR 5 159 d]
def L141_3 (N : Nat) {R : Type} (K : Kt R) := U141.l3 N (J Y141_3_0 .ret K) (J T141_3 (.exit 0) K)
def it141 (N : Nat) {R : Type} : It R := (lp 3 (al T141_3 (fun K => L141_3 N K N) an) ln)
theorem lo141_3 {R : Type} (N : Nat) : LoopOk E141 (it141 N (R := R)) (loopOf Try.f141 3) := lq 3 T141_3 (L141_3 N) fun K g => U141.r3 N g (J Y141_3_0 .ret K) (J T141_3 (.exit 0) K)
def sp141 := spf A141 k141 U141.c U141.v
theorem ok141 : FnOk Try.prog T 141 sp141 := fq (E := E141) (call_cons ok74 call_nil) Try.func141 (it := fun N => it141 N) (fun N => (loops_cons (lo141_3 N) loops_nil)) U141.b U141.vo

def E51 := en [(59, sp59), (72, sp72), (140, sp140), (141, sp141)] [(3, [0, 2, 3, 4])]
def A51 : Fn [.R, .I, .I] As := fun a b c => [.pt [.sh 5 a, .n b, .n c]]
def k51 : Fn [.R, .R, .I, .I] Res := fun a b c d => ⟨[aV [.ow 159 true a]], [[.sh 5 b, .n c, .n d]]⟩
def T51_3 : Fn [.I, .R, .I, .I] Tb := fun a b c d => [cP 0 900000900, cP 4 1, cP 6 2, cI 8 a, oB 1800001801 [.sh 5 b, .n c, .n d], oB 3 [.nl], oB 5 [.nl]]
def T51_3a : Fn [.I, .R, .I, .I, .R] Tb := fun a b c d e => [cP 0 900000900, cP 4 1, cP 6 2, cI 8 a, oB 1800001801 [.sh 5 b, .n c, .n d], oB 3 [.nl], oB 5 [.own 3], oR 7 159 e]
def L51_3 (N : Nat) {R : Type} (K : Kt R) := U51.l3 N (J T51_3 (.exit 0) K) (J T51_3a (.exit 0) K)
def L51_3a (N : Nat) {R : Type} (K : Kt R) := U51.l3a N (J T51_3 (.exit 0) K) (J T51_3a (.exit 0) K)
def it51 (N : Nat) {R : Type} : It R := (lp 3 (al T51_3 (fun K => L51_3 N K N) (al T51_3a (fun K => L51_3a N K N) an)) ln)
theorem w51_3a {R : Type} (N : Nat) (K : Kt R) : Wd E51 (it51 N) (loopOf Try.f51 3) 3 K T51_3a (L51_3a N K) := lw (fun g => U51.r3a N (cmp _ T51_3 (g ∘ tabl)) (cmp _ T51_3a (g ∘ tabl)) (J T51_3 (.exit 0) K) (J T51_3a (.exit 0) K)) fun m i => by simp only [Function.comp_def, wf i]; rfl
theorem w51_3 {R : Type} (N : Nat) (K : Kt R) : Wd E51 (it51 N) (loopOf Try.f51 3) 3 K T51_3 (L51_3 N K) := lw (fun g => U51.r3 N (cmp _ T51_3 (g ∘ tabl)) (cmp _ T51_3a (g ∘ tabl)) (J T51_3 (.exit 0) K) (J T51_3a (.exit 0) K)) fun m i => by simp only [Function.comp_def, wf i, wf (w51_3a N K m)]; rfl
theorem lo51_3 {R : Type} (N : Nat) : LoopOk E51 (it51 N (R := R)) (loopOf Try.f51 3) := lm 3 (ga T51_3 (w51_3 N) (ga T51_3a (w51_3a N) good_an))
def sp51 := spf A51 k51 U51.c U51.v
theorem ok51 : FnOk Try.prog T 51 sp51 := fq (E := E51) (call_cons ok59 (call_cons ok72 (call_cons ok140 (call_cons ok141 call_nil)))) Try.func51 (it := fun N => it51 N) (fun N => (loops_cons (lo51_3 N) loops_nil)) U51.b U51.vo

def E12 := en [(52, sp52), (51, sp51)] []
def A12 : Fn [.R] As := fun a => [aH 5 a]
def k12 : Fn [.R] Res := fun a => ⟨[aV [.ow 159 true a]], []⟩
def sp12 := spf A12 k12 U12.c U12.v
theorem ok12 : FnOk Try.prog T 12 sp12 := fr (E := E12) (call_cons ok52 (call_cons ok51 call_nil)) Try.func12 U12.b U12.vo

def E54 := en [(143, sp143)] []
def A54 : Fn [.R, .S] As := fun a b => [aV [.sh 159 a], aS b]
def k54 : Fn [.S, .B] Res := fun a b => ⟨[aS a, aB b], []⟩
def sp54 := spf A54 k54 U54.c U54.v
theorem ok54 : FnOk Try.prog T 54 sp54 := fr (E := E54) (call_cons ok143 call_nil) Try.func54 U54.b U54.vo

def E144 := en [(122, sp122), (150, sp150)] [(6, [0, 1, 4, 5, 6, 7, 8, 9])]
def A144 : Fn [.S, .I] As := fun a b => [aS a, aI b]
def k144 : Fn [.I, .I, .B] Res := fun a b c => ⟨[aI a, aI b, aB c], []⟩
def T144_6 : Fn [.S, .I, .I, .I, .B, .I, .I, .I] Tb := fun a b c d e f g h => [cA 0 (.s a), cI 2 b, cI 8 c, cI 10 d, cA 12 (.b e), cI 14 f, cI 16 g, cI 18 h]
def L144_6 (N : Nat) {R : Type} (K : Kt R) := U144.l6 N (J T144_6 .ret K) (J T144_6 (.exit 0) K)
def it144 (N : Nat) {R : Type} : It R := (lp 6 (al T144_6 (fun K => L144_6 N K N) an) ln)
theorem lo144_6 {R : Type} (N : Nat) : LoopOk E144 (it144 N (R := R)) (loopOf Try.f144 6) := lq 6 T144_6 (L144_6 N) fun K g => U144.r6 N g (J T144_6 .ret K) (J T144_6 (.exit 0) K)
def sp144 := spf A144 k144 (ct _) U144.v
theorem ok144 : FnOk Try.prog T 144 sp144 := fh (E := E144) (call_cons ok122 (call_cons ok150 call_nil)) Try.func144 (it := fun N => it144 N) (fun N => (loops_cons (lo144_6 N) loops_nil)) U144.b fun x f h => U144.b_eq _ x.1 x.2.1 f.1.1

def E55 := en [(144, sp144), (64, sp64)] [(5, [0, 2, 3, 4, 5])]
def A55 : Fn [.S] As := fun a => [aS a]
def k55 : Fn [.R, .I] Res := fun a b => ⟨[aO 9 a, aI b], []⟩
def T55_5 : Fn [.S, .I, .I, .R] Tb := fun a b c d => [cA 0 (.s a), cA 4 .nl, cI 6 b, cA 8 (.own 0), cI 10 c, oR 1 9 d]
def Y55_5_0 : Fn [.S, .I, .I, .R] Tb := fun a b c d => [cA 0 (.s a), cA 4 (.own 0), cI 6 b, cA 8 (.own 0), cI 10 c, oR 1 9 d]
def L55_5 (N : Nat) {R : Type} (K : Kt R) := U55.l5 N (J Y55_5_0 .ret K) (J T55_5 (.exit 0) K)
def it55 (N : Nat) {R : Type} : It R := (lp 5 (al T55_5 (fun K => L55_5 N K N) an) ln)
theorem lo55_5 {R : Type} (N : Nat) : LoopOk E55 (it55 N (R := R)) (loopOf Try.f55 5) := lq 5 T55_5 (L55_5 N) fun K g => U55.r5 N g (J Y55_5_0 .ret K) (J T55_5 (.exit 0) K)
def sp55 := spf A55 k55 U55.c U55.v
theorem ok55 : FnOk Try.prog T 55 sp55 := fq (E := E55) (call_cons ok144 (call_cons ok64 call_nil)) Try.func55 (it := fun N => it55 N) (fun N => (loops_cons (lo55_5 N) loops_nil)) U55.b U55.vo

def E145 := en [(144, sp144)] []
def A145 : Fn [.S, .I] As := fun a b => [aS a, aI b]
def k145 : Fn [.S, .I, .B] Res := fun a b c => ⟨[aS a, aI b, aB c], []⟩
def sp145 := spf A145 k145 (ct _) U145.v
theorem ok145 : FnOk Try.prog T 145 sp145 := fh (E := E145) (call_cons ok144 call_nil) Try.func145 (it := fun _ => ln) (fun _ => loops_nil) (fun _ => U145.b) fun x f h => ⟨0, U145.b_eq _ x.1 x.2.1 f.1.1⟩

def E56 := en [(145, sp145), (144, sp144), (63, sp63)] []
def A56 : Fn [.S] As := fun a => [aS a]
def k56 : Fn [.S, .I, .I, .S, .B] Res := fun a b c d e => ⟨[aV [.s a, .n b, .n c, .s d], aB e], []⟩
def sp56 := spf A56 k56 (ct _) U56.v
theorem ok56 : FnOk Try.prog T 56 sp56 := fh (E := E56) (call_cons ok145 (call_cons ok144 (call_cons ok63 call_nil))) Try.func56 (it := fun _ => ln) (fun _ => loops_nil) (fun _ => U56.b) fun x f h => ⟨0, U56.b_eq _ x.1 f.1.1⟩

def E57 := en [] [(3, [0, 3, 5, 6]), (9, [0, 3, 5, 7])]
def A57 : Fn [.R, .S, .I, .I, .S] As := fun a b c d e => [aH 86 a, aV [.s b, .n c, .n d, .s e]]
def k57 : Fn [.R] Res := fun a => ⟨[aO 86 a], []⟩
def T57_3 : Fn [.R, .I, .S, .I, .I, .S, .R] Tb := fun a b c d e f g => [cH 0 86 a, cP 6 0, cA 10 (.own 1), cI 12 b, oB 1 [.s c, .n d, .n e, .s f], oR 3 86 g]
def T57_9 : Fn [.R, .I, .S, .I, .I, .S, .R] Tb := fun a b c d e f g => [cH 0 86 a, cP 6 0, cA 10 (.own 1), cI 14 b, oB 1 [.s c, .n d, .n e, .s f], oR 3 86 g]
def L57_3 (N : Nat) {R : Type} (K : Kt R) := U57.l3 N (J T57_3 (.exit 0) K)
def L57_9 (N : Nat) {R : Type} (K : Kt R) := U57.l9 N (J T57_9 (.exit 2) K)
def it57 (N : Nat) {R : Type} : It R := (lp 3 (al T57_3 (fun K => L57_3 N K N) an) (lp 9 (al T57_9 (fun K => L57_9 N K N) an) ln))
theorem lo57_3 {R : Type} (N : Nat) : LoopOk E57 (it57 N (R := R)) (loopOf Try.f57 3) := lq 3 T57_3 (L57_3 N) fun K g => U57.r3 N g (J T57_3 (.exit 0) K)
theorem lo57_9 {R : Type} (N : Nat) : LoopOk E57 (it57 N (R := R)) (loopOf Try.f57 9) := lq 9 T57_9 (L57_9 N) fun K g => U57.r9 N g (J T57_9 (.exit 2) K)
def sp57 := spf A57 k57 U57.c U57.v
theorem ok57 : FnOk Try.prog T 57 sp57 := fq (E := E57) call_nil Try.func57 (it := fun N => it57 N) (fun N => (loops_cons (lo57_3 N) (loops_cons (lo57_9 N) loops_nil))) U57.b U57.vo

def E13 := en [(53, sp53), (54, sp54), (55, sp55), (56, sp56), (57, sp57)] [(7, [3, 6, 8])]
def A13 : Fn [.R] As := fun a => [aV [.sh 159 a]]
def k13 : Fn [.R] Res := fun a => ⟨[aO 86 a], []⟩
def T13_7 : Fn [.I, .R, .R] Tb := fun a b c => [cA 6 (.own 0), cA 12 (.own 1), cI 16 a, oR 1 86 b, oR 3 9 c]
def L13_7 (N : Nat) {R : Type} (K : Kt R) := U13.l7 N (J T13_7 (.exit 0) K)
def it13 (N : Nat) {R : Type} : It R := (lp 7 (al T13_7 (fun K => L13_7 N K N) an) ln)
theorem lo13_7 {R : Type} (N : Nat) : LoopOk E13 (it13 N (R := R)) (loopOf Try.f13 7) := lq 7 T13_7 (L13_7 N) fun K g => U13.r7 N g (J T13_7 (.exit 0) K)
def sp13 := spf A13 k13 U13.c U13.v
theorem ok13 : FnOk Try.prog T 13 sp13 := fq (E := E13) (call_cons ok53 (call_cons ok54 (call_cons ok55 (call_cons ok56 (call_cons ok57 call_nil))))) Try.func13 (it := fun N => it13 N) (fun N => (loops_cons (lo13_7 N) loops_nil)) U13.b U13.vo

def E14 := en [(52, sp52), (58, sp58), (59, sp59)] [(5, [3, 4, 5])]
def A14 : Fn [.R] As := fun a => [aH 5 a]
def k14 : Fn [.R] Res := fun a => ⟨[aO 3 a], []⟩
def T14_5 : Fn [.I, .R, .I, .I, .R] Tb := fun a b c d e => [cP 6 0, cA 8 (.own 1), cI 10 a, oB 1 [.sh 5 b, .n c, .n d], oR 3 3 e]
def L14_5 (N : Nat) {R : Type} (K : Kt R) := U14.l5 N (J T14_5 (.exit 0) K)
def it14 (N : Nat) {R : Type} : It R := (lp 5 (al T14_5 (fun K => L14_5 N K N) an) ln)
theorem lo14_5 {R : Type} (N : Nat) : LoopOk E14 (it14 N (R := R)) (loopOf Try.f14 5) := lq 5 T14_5 (L14_5 N) fun K g => U14.r5 N g (J T14_5 (.exit 0) K)
def sp14 := spf A14 k14 U14.c U14.v
theorem ok14 : FnOk Try.prog T 14 sp14 := fq (E := E14) (call_cons ok52 (call_cons ok58 (call_cons ok59 call_nil))) Try.func14 (it := fun N => it14 N) (fun N => (loops_cons (lo14_5 N) loops_nil)) U14.b U14.vo

def E70 := en [] []
def A70 : Fn [.I, .I, .I] As := fun a b c => [aI a, aI b, aI c]
def k70 : Fn [.B] Res := fun a => ⟨[aB a], []⟩
def sp70 := spf A70 k70 (ct _) U70.v
theorem ok70 : FnOk Try.prog T 70 sp70 := ft (E := E70) call_nil Try.func70 U70.b fun (a0, a1, a2, _) => U70.b_eq _ a0 a1 a2

def E60 := en [(70, sp70)] [(2, [1, 2, 6, 7, 8])]
def A60 : Fn [.R] As := fun a => [aV [.sh 159 a]]
def k60 : Fn [.B] Res := fun a => ⟨[aB a], []⟩
def T60_2 : Fn [.B, .R, .I, .I, .R] Tb := fun a b c d e => [cP 2 0, cA 4 (.b a), cH 12 159 b, cI 14 c, cI 16 d, oB 1 [.sh 159 e]]
def L60_2 (N : Nat) {R : Type} (K : Kt R) := U60.l2 N (J T60_2 .ret K) (J T60_2 (.exit 0) K)
def it60 (N : Nat) {R : Type} : It R := (lp 2 (al T60_2 (fun K => L60_2 N K N) an) ln)
theorem lo60_2 {R : Type} (N : Nat) : LoopOk E60 (it60 N (R := R)) (loopOf Try.f60 2) := lq 2 T60_2 (L60_2 N) fun K g => U60.r2 N g (J T60_2 .ret K) (J T60_2 (.exit 0) K)
def sp60 := spf A60 k60 U60.c U60.v
theorem ok60 : FnOk Try.prog T 60 sp60 := fq (E := E60) (call_cons ok70 call_nil) Try.func60 (it := fun N => it60 N) (fun N => (loops_cons (lo60_2 N) loops_nil)) U60.b U60.vo

def E78 := en [(70, sp70)] []
def A78 : Fn [.S] As := fun a => [aS a]
def k78 : Fn [.B] Res := fun a => ⟨[aB a], []⟩
def sp78 := spf A78 k78 (ct _) U78.v
theorem ok78 : FnOk Try.prog T 78 sp78 := ft (E := E78) (call_cons ok70 call_nil) Try.func78 U78.b fun (a0, _) => U78.b_eq _ a0

def E96 := en [(70, sp70)] []
def A96 : Fn [.I] As := fun a => [aI a]
def k96 : Fn [.B] Res := fun a => ⟨[aB a], []⟩
def sp96 := spf A96 k96 (ct _) U96.v
theorem ok96 : FnOk Try.prog T 96 sp96 := ft (E := E96) (call_cons ok70 call_nil) Try.func96 U96.b fun (a0, _) => U96.b_eq _ a0

def E159 := en [(78, sp78), (96, sp96), (70, sp70)] []
def A159 : Fn [.S, .I, .I, .S] As := fun a b c d => [aV [.s a, .n b, .n c, .s d]]
def k159 : Fn [.B] Res := fun a => ⟨[aB a], []⟩
def sp159 := spf A159 k159 (ct _) U159.v
theorem ok159 : FnOk Try.prog T 159 sp159 := ft (E := E159) (call_cons ok78 (call_cons ok96 (call_cons ok70 call_nil))) Try.func159 U159.b fun (a0, a1, a2, a3, _) => U159.b_eq _ a0 a1 a2 a3

def E209 := en [(70, sp70)] [(4, [0, 4])]
def A209 : Fn [.I] As := fun a => [aI a]
def k209 : Fn [.S, .B] Res := fun a b => ⟨[aS a, aB b], []⟩
def T209_4 : Fn [.I, .R] Tb := fun a b => [cI 0 a, cA 8 (.own 0), oR 1 5 b]
def L209_4 (N : Nat) {R : Type} (K : Kt R) := U209.l4 N (J T209_4 (.exit 0) K)
def it209 (N : Nat) {R : Type} : It R := (lp 4 (al T209_4 (fun K => L209_4 N K N) an) ln)
theorem lo209_4 {R : Type} (N : Nat) : LoopOk E209 (it209 N (R := R)) (loopOf Try.f209 4) := lq 4 T209_4 (L209_4 N) fun K g => U209.r4 N g (J T209_4 (.exit 0) K)
def sp209 := spf A209 k209 (ct _) U209.v
theorem ok209 : FnOk Try.prog T 209 sp209 := fh (E := E209) (call_cons ok70 call_nil) Try.func209 (it := fun N => it209 N) (fun N => (loops_cons (lo209_4 N) loops_nil)) U209.b fun x f h => U209.b_eq _ x.1

def E208 := en [(209, sp209)] []
def A208 : Fn [.S] As := fun a => [aS a]
def k208 : Fn [.S, .B] Res := fun a b => ⟨[aS a, aB b], []⟩
def sp208 := spf A208 k208 (ct _) U208.v
theorem ok208 : FnOk Try.prog T 208 sp208 := fh (E := E208) (call_cons ok209 call_nil) Try.func208 (it := fun _ => ln) (fun _ => loops_nil) (fun _ => U208.b) fun x f h => ⟨0, U208.b_eq _ x.1⟩

def E146 := en [(159, sp159), (208, sp208), (209, sp209)] []
def A146 : Fn [.S, .I, .I, .S] As := fun a b c d => [aV [.s a, .n b, .n c, .s d]]
def k146 : Fn [.S, .B] Res := fun a b => ⟨[aS a, aB b], []⟩
def sp146 := spf A146 k146 (ct _) U146.v
theorem ok146 : FnOk Try.prog T 146 sp146 := fh (E := E146) (call_cons ok159 (call_cons ok208 (call_cons ok209 call_nil))) Try.func146 (it := fun _ => ln) (fun _ => loops_nil) (fun _ => U146.b) fun x f h => ⟨0, U146.b_eq _ x.1 x.2.1 x.2.2.1 x.2.2.2.1⟩

def E231 := en [] [(2, [0, 1, 5]), (6, [0, 1, 5, 19])]
def A231 : Fn [.I, .S] As := fun a b => [.v false [.i .u32 a], aS b]
def k231 : Fn [.I] Res := fun a => ⟨[.v false [.i .u32 a]], []⟩
def T231_2 : Fn [.I, .S, .I] Tb := fun a b c => [cA 0 (.i .u32 a), cA 2 (.s b), cI 10 c]
def T231_6 : Fn [.I, .S, .I, .I] Tb := fun a b c d => [cA 0 (.i .u32 a), cA 2 (.s b), cI 10 c, cI 38 d]
def L231_2 (N : Nat) {R : Type} (K : Kt R) := U231.l2 N (J T231_2 (.exit 0) K)
def L231_6 (N : Nat) {R : Type} (K : Kt R) := U231.l6 N (J T231_6 (.exit 2) K)
def it231 (N : Nat) {R : Type} : It R := (lp 2 (al T231_2 (fun K => L231_2 N K N) an) (lp 6 (al T231_6 (fun K => L231_6 N K N) an) ln))
theorem lo231_2 {R : Type} (N : Nat) : LoopOk E231 (it231 N (R := R)) (loopOf Try.f231 2) := lq 2 T231_2 (L231_2 N) fun K g => U231.r2 N g (J T231_2 (.exit 0) K)
theorem lo231_6 {R : Type} (N : Nat) : LoopOk E231 (it231 N (R := R)) (loopOf Try.f231 6) := lq 6 T231_6 (L231_6 N) fun K g => U231.r6 N g (J T231_6 (.exit 2) K)
def sp231 := spf A231 k231 U231.c U231.v
theorem ok231 : FnOk Try.prog T 231 sp231 := fq (E := E231) call_nil Try.func231 (it := fun N => it231 N) (fun N => (loops_cons (lo231_2 N) (loops_cons (lo231_6 N) loops_nil))) U231.b U231.vo

def E216 := en [(231, sp231)] []
def A216 : Fn [.S] As := fun a => [aS a]
def k216 : Fn [.I] Res := fun a => ⟨[.v false [.i .u32 a]], []⟩
def sp216 := spf A216 k216 U216.c U216.v
theorem ok216 : FnOk Try.prog T 216 sp216 := fr (E := E216) (call_cons ok231 call_nil) Try.func216 U216.b U216.vo

def E157 := en [(216, sp216)] []
def A157 : Fn [.S] As := fun a => [aS a]
def k157 : Fn [.S] Res := fun a => ⟨[aS a], []⟩
def sp157 := spf A157 k157 U157.c U157.v
theorem ok157 : FnOk Try.prog T 157 sp157 := fr (E := E157) (call_cons ok216 call_nil) Try.func157 U157.b U157.vo

def E147 := en [(70, sp70), (209, sp209), (157, sp157)] []
def A147 : Fn [.S] As := fun a => [aS a]
def k147 : Fn [.S, .B] Res := fun a b => ⟨[aS a, aB b], []⟩
def sp147 := spf A147 k147 U147.c U147.v
theorem ok147 : FnOk Try.prog T 147 sp147 := fr (E := E147) (call_cons ok70 (call_cons ok209 (call_cons ok157 call_nil))) Try.func147 U147.b U147.vo

def E61 := en [(146, sp146), (147, sp147)] []
def A61 : Fn [.S, .I, .I, .S] As := fun a b c d => [aV [.s a, .n b, .n c, .s d]]
def k61 : Fn [.S, .B] Res := fun a b => ⟨[aS a, aB b], []⟩
def sp61 := spf A61 k61 U61.c U61.v
theorem ok61 : FnOk Try.prog T 61 sp61 := fr (E := E61) (call_cons ok146 (call_cons ok147 call_nil)) Try.func61 U61.b U61.vo

def E211 := en [] []
def A211 : Fn [.S, .S, .I, .S] As := fun a b c d => [aV [.s a, .s b, .n c], .fb [.s d]]
def k211 : Fn [.B] Res := fun a => ⟨[aB a], []⟩
def sp211 := spf A211 k211 (ct _) U211.v
theorem ok211 : FnOk Try.prog T 211 sp211 := ft (E := E211) call_nil Try.func211 U211.b fun (a0, a1, a2, a3, _) => U211.b_eq _ a0 a1 a2 a3

def E210a := en [(211, sp211)] [(2, [0, 1, 4, 7, 8])]
def A210a : Fn [.R, .S] As := fun a b => [aH 159 a, .v false [.fn 211 [[.s b]]]]
def k210a : Fn [.I] Res := fun a => ⟨[aI a], []⟩
def T210a_2 : Fn [.R, .S, .I, .I, .I] Tb := fun a b c d e => [cH 0 159 a, cA 2 (.fn 211 [[.s b]]), cI 8 c, cI 14 d, cI 16 e]
def L210a_2 (N : Nat) {R : Type} (K : Kt R) := U210a.l2 N (J T210a_2 .ret K) (J T210a_2 (.exit 0) K)
def it210a (N : Nat) {R : Type} : It R := (lp 2 (al T210a_2 (fun K => L210a_2 N K N) an) ln)
theorem lo210a_2 {R : Type} (N : Nat) : LoopOk E210a (it210a N (R := R)) (loopOf Try.f210 2) := lq 2 T210a_2 (L210a_2 N) fun K g => U210a.r2 N g (J T210a_2 .ret K) (J T210a_2 (.exit 0) K)
def sp210a := spf A210a k210a U210a.c U210a.v
theorem ok210a : FnOk Try.prog T 210 sp210a := fq (E := E210a) (call_cons ok211 call_nil) Try.func210 (it := fun N => it210a N) (fun N => (loops_cons (lo210a_2 N) loops_nil)) U210a.b U210a.vo

def E215 := en [] []
def A215 : Fn [.S, .S, .I, .S] As := fun a b c d => [aV [.s a, .s b, .n c], .fb [.s d]]
def k215 : Fn [.B] Res := fun a => ⟨[aB a], []⟩
def sp215 := spf A215 k215 (ct _) U215.v
theorem ok215 : FnOk Try.prog T 215 sp215 := ft (E := E215) call_nil Try.func215 U215.b fun (a0, a1, a2, a3, _) => U215.b_eq _ a0 a1 a2 a3

def E210b := en [(215, sp215)] [(2, [0, 1, 4, 7, 8])]
def A210b : Fn [.R, .S] As := fun a b => [aH 159 a, .v false [.fn 215 [[.s b]]]]
def k210b : Fn [.I] Res := fun a => ⟨[aI a], []⟩
def T210b_2 : Fn [.R, .S, .I, .I, .I] Tb := fun a b c d e => [cH 0 159 a, cA 2 (.fn 215 [[.s b]]), cI 8 c, cI 14 d, cI 16 e]
def L210b_2 (N : Nat) {R : Type} (K : Kt R) := U210b.l2 N (J T210b_2 .ret K) (J T210b_2 (.exit 0) K)
def it210b (N : Nat) {R : Type} : It R := (lp 2 (al T210b_2 (fun K => L210b_2 N K N) an) ln)
theorem lo210b_2 {R : Type} (N : Nat) : LoopOk E210b (it210b N (R := R)) (loopOf Try.f210 2) := lq 2 T210b_2 (L210b_2 N) fun K g => U210b.r2 N g (J T210b_2 .ret K) (J T210b_2 (.exit 0) K)
def sp210b := spf A210b k210b U210b.c U210b.v
theorem ok210b : FnOk Try.prog T 210 sp210b := fq (E := E210b) (call_cons ok215 call_nil) Try.func210 (it := fun N => it210b N) (fun N => (loops_cons (lo210b_2 N) loops_nil)) U210b.b U210b.vo

def E148 := en [(210, sp210a), (210, sp210b)] []
def A148 : Fn [.R, .S] As := fun a b => [aV [.sh 159 a], aS b]
def k148 : Fn [.I] Res := fun a => ⟨[aI a], []⟩
def sp148 := spf A148 k148 U148.c U148.v
theorem ok148 : FnOk Try.prog T 148 sp148 := fr (E := E148) (call_cons ok210a (call_cons ok210b call_nil)) Try.func148 U148.b U148.vo

def E62 := en [(148, sp148)] []
def A62 : Fn [.R, .S] As := fun a b => [aV [.sh 159 a], aS b]
def k62 : Fn [.S, .B] Res := fun a b => ⟨[aS a, aB b], []⟩
def sp62 := spf A62 k62 U62.c U62.v
theorem ok62 : FnOk Try.prog T 62 sp62 := fr (E := E62) (call_cons ok148 call_nil) Try.func62 U62.b U62.vo

def E15 := en [(60, sp60), (61, sp61), (62, sp62)] [(5, [2, 4, 5, 6, 17, 18, 19])]
def A15 : Fn [.R, .R] As := fun a b => [aV [.sh 159 a], aH 86 b]
def k15 : Fn [.R, .B] Res := fun a b => ⟨[aO 106 a, aB b], []⟩
def T15_5 : Fn [.B, .S, .R, .I, .I, .R] Tb := fun a b c d e f => [cP 4 0, cA 8 .nl, cA 10 (.b a), cA 12 (.s b), cH 34 86 c, cI 36 d, cI 38 e, oB 1 [.sh 159 f]]
def L15_5 (N : Nat) {R : Type} (K : Kt R) := U15.l5 N (J T15_5 .ret K) (J T15_5 (.exit 0) K)
def it15 (N : Nat) {R : Type} : It R := (lp 5 (al T15_5 (fun K => L15_5 N K N) an) ln)
theorem lo15_5 {R : Type} (N : Nat) : LoopOk E15 (it15 N (R := R)) (loopOf Try.f15 5) := lq 5 T15_5 (L15_5 N) fun K g => U15.r5 N g (J T15_5 .ret K) (J T15_5 (.exit 0) K)
def sp15 := spf A15 k15 U15.c U15.v
theorem ok15 : FnOk Try.prog T 15 sp15 := fq (E := E15) (call_cons ok60 (call_cons ok61 (call_cons ok62 call_nil))) Try.func15 (it := fun N => it15 N) (fun N => (loops_cons (lo15_5 N) loops_nil)) U15.b U15.vo

def E16 := en [(53, sp53), (54, sp54), (63, sp63), (64, sp64)] [(9, [1, 4, 5, 6, 9, 10])]
def A16 : Fn [.R, .R] As := fun a b => [aV [.sh 159 a], aH 86 b]
def k16 : Fn [.R, .B] Res := fun a b => ⟨[aO 106 a, aB b], []⟩
def T16_9 : Fn [.R, .B, .S, .I, .R] Tb := fun a b c d e => [cH 2 86 a, cA 8 .nl, cA 10 (.b b), cA 12 (.own 0), cA 18 (.s c), cI 20 d, oR 1 106 e]
def Y16_9_0 : Fn [.R, .B, .S, .I, .R, .R] Tb := fun a b c d e f => [cH 2 86 a, cA 8 (.own 0), cA 10 (.b b), cA 12 (.own 1), cA 18 (.s c), cI 20 d, oR 1 106 e, oR 3 106 f]
def L16_9 (N : Nat) {R : Type} (K : Kt R) := U16.l9 N (J Y16_9_0 .ret K) (J T16_9 (.exit 0) K)
def it16 (N : Nat) {R : Type} : It R := (lp 9 (al T16_9 (fun K => L16_9 N K N) an) ln)
theorem lo16_9 {R : Type} (N : Nat) : LoopOk E16 (it16 N (R := R)) (loopOf Try.f16 9) := lq 9 T16_9 (L16_9 N) fun K g => U16.r9 N g (J Y16_9_0 .ret K) (J T16_9 (.exit 0) K)
def sp16 := spf A16 k16 U16.c U16.v
theorem ok16 : FnOk Try.prog T 16 sp16 := fq (E := E16) (call_cons ok53 (call_cons ok54 (call_cons ok63 (call_cons ok64 call_nil)))) Try.func16 (it := fun N => it16 N) (fun N => (loops_cons (lo16_9 N) loops_nil)) U16.b U16.vo

def E65 := en [] []
def A65 : Fn [.R] As := fun a => [aV [.sh 159 a]]
def k65 : Fn [.R] Res := fun a => ⟨[aV [.ow 159 true a]], []⟩
def sp65 := spf A65 k65 U65.c U65.v
theorem ok65 : FnOk Try.prog T 65 sp65 := fr (E := E65) call_nil Try.func65 U65.b U65.vo

def E153 := en [(70, sp70)] []
def A153 : Fn [.I, .S, .S, .S] As := fun a b c d => [aV [.n a, .s b, .s c, .s d]]
def k153 : Fn [.B] Res := fun a => ⟨[aB a], []⟩
def sp153 := spf A153 k153 (ct _) U153.v
theorem ok153 : FnOk Try.prog T 153 sp153 := ft (E := E153) (call_cons ok70 call_nil) Try.func153 U153.b fun (a0, a1, a2, a3, _) => U153.b_eq _ a0 a1 a2 a3

def E214 := en [(210, sp210a), (210, sp210b), (215, sp215)] [(5, [0, 1, 5, 6])]
def A214 : Fn [.R, .S] As := fun a b => [aO 159 a, .v false [.fn 215 [[.s b]]]]
def k214 : Fn [.R] Res := fun a => ⟨[aO 159 a], [[.nl]]⟩
def T214_5 : Fn [.S, .I, .I, .R] Tb := fun a b c d => [cA 0 (.own 900000000), cA 2 (.fn 215 [[.s a]]), cI 10 b, cI 12 c, oR 1800000001 159 d]
def L214_5 (N : Nat) {R : Type} (K : Kt R) := U214.l5 N (J T214_5 (.exit 0) K)
def it214 (N : Nat) {R : Type} : It R := (lp 5 (al T214_5 (fun K => L214_5 N K N) an) ln)
theorem lo214_5 {R : Type} (N : Nat) : LoopOk E214 (it214 N (R := R)) (loopOf Try.f214 5) := lq 5 T214_5 (L214_5 N) fun K g => U214.r5 N g (J T214_5 (.exit 0) K)
def sp214 := spf A214 k214 U214.c U214.v
theorem ok214 : FnOk Try.prog T 214 sp214 := fq (E := E214) (call_cons ok210a (call_cons ok210b (call_cons ok215 call_nil))) Try.func214 (it := fun N => it214 N) (fun N => (loops_cons (lo214_5 N) loops_nil)) U214.b U214.vo

def E155 := en [(65, sp65), (214, sp214)] []
def A155 : Fn [.R, .S] As := fun a b => [aV [.sh 159 a], aS b]
def k155 : Fn [.R] Res := fun a => ⟨[aV [.ow 159 true a]], []⟩
def sp155 := spf A155 k155 U155.c U155.v
theorem ok155 : FnOk Try.prog T 155 sp155 := fr (E := E155) (call_cons ok65 (call_cons ok214 call_nil)) Try.func155 U155.b U155.vo

def rho213 : Go.Shelf.Ren := ⟨fun n => bif Nat.beq n 22 then 213 else bif Nat.beq n 29 then 229 else 230, fun n => bif Nat.beq n 24 then 24 else bif Nat.beq n 9 then 159 else bif Nat.beq n 3 then 3 else bif Nat.beq n 4 then 4 else n, fun n => n⟩
def sp213 : List Arg -> Option (Bool × Res) := Ins.insSpec 159 40
theorem ins213 : Ins.L Try.prog rho213 "slices.Insert[[]loop.example/g00245/impl.File,loop.example/g00245/impl.File]" 3 where
 mixed := hM
 f22 := Try.func213.trans (by kernel_rfl)
 t3 := by kernel_rfl
 a3 := Ins.agg_false (P := Try.prog) (t := 3) (d := .int .i64) (by kernel_rfl) rfl
 t4 := by kernel_rfl
 a4 := Ins.agg_false (P := Try.prog) (t := 4) (d := .bool) (by kernel_rfl) rfl
 t24 := by kernel_rfl
 a24 := Ins.agg_false (P := Try.prog) (t := 24) (d := .slice 159) (by kernel_rfl) rfl
 z9 := Ins.size_of hE (t := 159) (ti := ⟨true, [.s, .s, .i .i64], 40⟩) (by kernel_rfl)
theorem ok213 : FnOk Try.prog T 213 sp213 :=
 Ins.insert_ok (e := 159) (te := ⟨true, [.s, .s, .i .i64], 40⟩) (by kernel_rfl) rfl (by kernel_rfl) hE ins213
  (fun args w => run_callFunc_extern (e := Extern.SlicesOverlaps.overlaps #[24, 24] #[4]) Try.func229 (by kernel_rfl) (by kernel_rfl) (by kernel_rfl) (by kernel_rfl) args w)
  ⟨_, Try.func213, by kernel_rfl, by kernel_rfl⟩

def E154 := en [(155, sp155), (213, sp213)] [(3, [3, 4, 5, 6])]
def A154 : Fn [.R, .S, .S, .I] As := fun a b c d => [aV [.sh 159 a], aV [.s b, .s c, .n d]]
def k154 : Fn [.R] Res := fun a => ⟨[aV [.ow 159 true a]], []⟩
def T154_3 : Fn [.I, .S, .S, .I, .R] Tb := fun a b c d e => [cP 6 0, cP 8 1, cP 10 2, cI 12 a, oB 1 [.s b, .s c, .n d], oB 3 [.nl], oB 5 [.own 3], oR 7 159 e]
def L154_3 (N : Nat) {R : Type} (K : Kt R) := U154.l3 N (J T154_3 (.exit 0) K)
def it154 (N : Nat) {R : Type} : It R := (lp 3 (al T154_3 (fun K => L154_3 N K N) an) ln)
theorem lo154_3 {R : Type} (N : Nat) : LoopOk E154 (it154 N (R := R)) (loopOf Try.f154 3) := lq 3 T154_3 (L154_3 N) fun K g => U154.r3 N g (J T154_3 (.exit 0) K)
def sp154 := spf A154 k154 U154.c U154.v
theorem ok154 : FnOk Try.prog T 154 sp154 := fq (E := E154) (call_cons ok155 (call_cons ok213 call_nil)) Try.func154 (it := fun N => it154 N) (fun N => (loops_cons (lo154_3 N) loops_nil)) U154.b U154.vo

def E66 := en [(148, sp148), (60, sp60), (153, sp153), (154, sp154), (155, sp155)] []
def A66 : Fn [.R, .I, .S, .S, .S] As := fun a b c d e => [aV [.sh 159 a], aV [.n b, .s c, .s d, .s e]]
def k66 : Fn [.R, .B] Res := fun a b => ⟨[aV [.ow 159 true a], aB b], []⟩
def sp66 := spf A66 k66 U66.c U66.v
theorem ok66 : FnOk Try.prog T 66 sp66 := fr (E := E66) (call_cons ok148 (call_cons ok60 (call_cons ok153 (call_cons ok154 (call_cons ok155 call_nil))))) Try.func66 U66.b U66.vo

def E17 := en [(65, sp65), (66, sp66)] [(3, [1, 4, 5, 6, 13, 14, 15])]
def A17 : Fn [.R, .R] As := fun a b => [aV [.sh 159 a], aH 106 b]
def k17 : Fn [.R, .I] Res := fun a b => ⟨[aV [.ow 159 true a], aI b], []⟩
def T17_3 : Fn [.R, .I, .R, .I, .I, .R] Tb := fun a b c d e f => [cH 2 106 a, cP 8 0, cI 10 b, cP 12 1, cH 26 106 c, cI 28 d, cI 30 e, oB 1 [.nl], oB 3 [.own 2], oR 5 159 f]
def Y17_3_0 : Fn [.R, .I, .R, .I, .I, .R] Tb := fun a b c d e f => [cH 2 106 a, cP 8 0, cI 10 b, cP 12 1, cH 26 106 c, cI 28 d, cI 30 e, oB 1 [.own 2], oB 3 [.own 2], oR 5 159 f]
def L17_3 (N : Nat) {R : Type} (K : Kt R) := U17.l3 N (J Y17_3_0 .ret K) (J T17_3 (.exit 0) K)
def it17 (N : Nat) {R : Type} : It R := (lp 3 (al T17_3 (fun K => L17_3 N K N) an) ln)
theorem lo17_3 {R : Type} (N : Nat) : LoopOk E17 (it17 N (R := R)) (loopOf Try.f17 3) := lq 3 T17_3 (L17_3 N) fun K g => U17.r3 N g (J Y17_3_0 .ret K) (J T17_3 (.exit 0) K)
def sp17 := spf A17 k17 U17.c U17.v
theorem ok17 : FnOk Try.prog T 17 sp17 := fq (E := E17) (call_cons ok65 (call_cons ok66 call_nil)) Try.func17 (it := fun N => it17 N) (fun N => (loops_cons (lo17_3 N) loops_nil)) U17.b U17.vo

def E18 := en [] [(4, [0, 1, 4, 5])]
def A18 : Fn [.R, .R] As := fun a b => [aH 106 a, aH 106 b]
def k18 : Fn [.B] Res := fun a => ⟨[aB a], []⟩
def T18_4 : Fn [.R, .R, .B, .I] Tb := fun a b c d => [cH 0 106 a, cH 2 106 b, cA 8 (.b c), cI 10 d]
def L18_4 (N : Nat) {R : Type} (K : Kt R) := U18.l4 N (J T18_4 .ret K) (J T18_4 (.exit 0) K)
def it18 (N : Nat) {R : Type} : It R := (lp 4 (al T18_4 (fun K => L18_4 N K N) an) ln)
theorem lo18_4 {R : Type} (N : Nat) : LoopOk E18 (it18 N (R := R)) (loopOf Try.f18 4) := lq 4 T18_4 (L18_4 N) fun K g => U18.r4 N g (J T18_4 .ret K) (J T18_4 (.exit 0) K)
def sp18 := spf A18 k18 U18.c U18.v
theorem ok18 : FnOk Try.prog T 18 sp18 := fq (E := E18) call_nil Try.func18 (it := fun N => it18 N) (fun N => (loops_cons (lo18_4 N) loops_nil)) U18.b U18.vo

def E156 := en [(70, sp70)] [(5, [0, 1, 4, 5, 6, 7, 8])]
def A156 : Fn [.S, .I] As := fun a b => [aS a, aI b]
def k156 : Fn [.I, .I, .B] Res := fun a b c => ⟨[aI a, aI b, aB c], []⟩
def T156_5 : Fn [.S, .I, .I, .I, .B, .I, .I] Tb := fun a b c d e f g => [cA 0 (.s a), cI 2 b, cI 8 c, cI 10 d, cA 12 (.b e), cI 14 f, cI 16 g]
def L156_5 (N : Nat) {R : Type} (K : Kt R) := U156.l5 N (J T156_5 .ret K) (J T156_5 (.exit 0) K)
def it156 (N : Nat) {R : Type} : It R := (lp 5 (al T156_5 (fun K => L156_5 N K N) an) ln)
theorem lo156_5 {R : Type} (N : Nat) : LoopOk E156 (it156 N (R := R)) (loopOf Try.f156 5) := lq 5 T156_5 (L156_5 N) fun K g => U156.r5 N g (J T156_5 .ret K) (J T156_5 (.exit 0) K)
def sp156 := spf A156 k156 (ct _) U156.v
theorem ok156 : FnOk Try.prog T 156 sp156 := fh (E := E156) (call_cons ok70 call_nil) Try.func156 (it := fun N => it156 N) (fun N => (loops_cons (lo156_5 N) loops_nil)) U156.b fun x f h => U156.b_eq _ x.1 x.2.1 f.1.1

def E67 := en [(156, sp156), (70, sp70), (157, sp157)] [(3, [0, 4, 5])]
def A67 : Fn [.S] As := fun a => [aS a]
def k67 : Fn [.R, .I] Res := fun a b => ⟨[aO 9 a, aI b], []⟩
def T67_3 : Fn [.S, .I, .R] Tb := fun a b c => [cA 0 (.s a), cA 8 (.own 0), cI 10 b, oR 1 9 c]
def L67_3 (N : Nat) {R : Type} (K : Kt R) := U67.l3 N (J T67_3 (.exit 0) K)
def it67 (N : Nat) {R : Type} : It R := (lp 3 (al T67_3 (fun K => L67_3 N K N) an) ln)
theorem lo67_3 {R : Type} (N : Nat) : LoopOk E67 (it67 N (R := R)) (loopOf Try.f67 3) := lq 3 T67_3 (L67_3 N) fun K g => U67.r3 N g (J T67_3 (.exit 0) K)
def sp67 := spf A67 k67 U67.c U67.v
theorem ok67 : FnOk Try.prog T 67 sp67 := fq (E := E67) (call_cons ok156 (call_cons ok70 (call_cons ok157 call_nil))) Try.func67 (it := fun N => it67 N) (fun N => (loops_cons (lo67_3 N) loops_nil)) U67.b U67.vo

def E158 := en [(156, sp156)] []
def A158 : Fn [.S, .I] As := fun a b => [aS a, aI b]
def k158 : Fn [.S, .I, .B] Res := fun a b c => ⟨[aS a, aI b, aB c], []⟩
def sp158 := spf A158 k158 (ct _) U158.v
theorem ok158 : FnOk Try.prog T 158 sp158 := fh (E := E158) (call_cons ok156 call_nil) Try.func158 (it := fun _ => ln) (fun _ => loops_nil) (fun _ => U158.b) fun x f h => ⟨0, U158.b_eq _ x.1 x.2.1 f.1.1⟩

def E68 := en [(158, sp158), (156, sp156), (159, sp159)] []
def A68 : Fn [.S] As := fun a => [aS a]
def k68 : Fn [.S, .I, .I, .S, .B] Res := fun a b c d e => ⟨[aV [.s a, .n b, .n c, .s d], aB e], []⟩
def sp68 := spf A68 k68 (ct _) U68.v
theorem ok68 : FnOk Try.prog T 68 sp68 := fh (E := E68) (call_cons ok158 (call_cons ok156 (call_cons ok159 call_nil))) Try.func68 (it := fun _ => ln) (fun _ => loops_nil) (fun _ => U68.b) fun x f h => ⟨0, U68.b_eq _ x.1 f.1.1⟩

def E168 := en [] []
def A168 : Fn [.R] As := fun a => [aH 86 a]
def k168 : Fn [.R] Res := fun a => ⟨[aO 86 a], []⟩
def sp168 := spf A168 k168 U168.c U168.v
theorem ok168 : FnOk Try.prog T 168 sp168 := fr (E := E168) call_nil Try.func168 U168.b U168.vo

def E81 := en [] []
def A81 : Fn [.S, .I, .I, .S, .S] As := fun a b c d e => [aV [.s a, .n b, .n c, .s d], .fb [.s e]]
def k81 : Fn [.B] Res := fun a => ⟨[aB a], []⟩
def sp81 := spf A81 k81 (ct _) U81.v
theorem ok81 : FnOk Try.prog T 81 sp81 := ft (E := E81) call_nil Try.func81 U81.b fun (a0, a1, a2, a3, a4, _) => U81.b_eq _ a0 a1 a2 a3 a4

def E80a := en [(81, sp81)] [(2, [0, 1, 4, 7, 8])]
def A80a : Fn [.R, .S] As := fun a b => [aH 86 a, .v false [.fn 81 [[.s b]]]]
def k80a : Fn [.I] Res := fun a => ⟨[aI a], []⟩
def T80a_2 : Fn [.R, .S, .I, .I, .I] Tb := fun a b c d e => [cH 0 86 a, cA 2 (.fn 81 [[.s b]]), cI 8 c, cI 14 d, cI 16 e]
def L80a_2 (N : Nat) {R : Type} (K : Kt R) := U80a.l2 N (J T80a_2 .ret K) (J T80a_2 (.exit 0) K)
def it80a (N : Nat) {R : Type} : It R := (lp 2 (al T80a_2 (fun K => L80a_2 N K N) an) ln)
theorem lo80a_2 {R : Type} (N : Nat) : LoopOk E80a (it80a N (R := R)) (loopOf Try.f80 2) := lq 2 T80a_2 (L80a_2 N) fun K g => U80a.r2 N g (J T80a_2 .ret K) (J T80a_2 (.exit 0) K)
def sp80a := spf A80a k80a U80a.c U80a.v
theorem ok80a : FnOk Try.prog T 80 sp80a := fq (E := E80a) (call_cons ok81 call_nil) Try.func80 (it := fun N => it80a N) (fun N => (loops_cons (lo80a_2 N) loops_nil)) U80a.b U80a.vo

def E176 := en [] []
def A176 : Fn [.S, .I, .I, .S, .S] As := fun a b c d e => [aV [.s a, .n b, .n c, .s d], .fb [.s e]]
def k176 : Fn [.B] Res := fun a => ⟨[aB a], []⟩
def sp176 := spf A176 k176 (ct _) U176.v
theorem ok176 : FnOk Try.prog T 176 sp176 := ft (E := E176) call_nil Try.func176 U176.b fun (a0, a1, a2, a3, a4, _) => U176.b_eq _ a0 a1 a2 a3 a4

def E80b := en [(176, sp176)] [(2, [0, 1, 4, 7, 8])]
def A80b : Fn [.R, .S] As := fun a b => [aH 86 a, .v false [.fn 176 [[.s b]]]]
def k80b : Fn [.I] Res := fun a => ⟨[aI a], []⟩
def T80b_2 : Fn [.R, .S, .I, .I, .I] Tb := fun a b c d e => [cH 0 86 a, cA 2 (.fn 176 [[.s b]]), cI 8 c, cI 14 d, cI 16 e]
def L80b_2 (N : Nat) {R : Type} (K : Kt R) := U80b.l2 N (J T80b_2 .ret K) (J T80b_2 (.exit 0) K)
def it80b (N : Nat) {R : Type} : It R := (lp 2 (al T80b_2 (fun K => L80b_2 N K N) an) ln)
theorem lo80b_2 {R : Type} (N : Nat) : LoopOk E80b (it80b N (R := R)) (loopOf Try.f80 2) := lq 2 T80b_2 (L80b_2 N) fun K g => U80b.r2 N g (J T80b_2 .ret K) (J T80b_2 (.exit 0) K)
def sp80b := spf A80b k80b U80b.c U80b.v
theorem ok80b : FnOk Try.prog T 80 sp80b := fq (E := E80b) (call_cons ok176 call_nil) Try.func80 (it := fun N => it80b N) (fun N => (loops_cons (lo80b_2 N) loops_nil)) U80b.b U80b.vo

def E175 := en [(80, sp80a), (80, sp80b), (176, sp176)] [(5, [0, 1, 5, 6])]
def A175 : Fn [.R, .S] As := fun a b => [aO 86 a, .v false [.fn 176 [[.s b]]]]
def k175 : Fn [.R] Res := fun a => ⟨[aO 86 a], [[.nl]]⟩
def T175_5 : Fn [.S, .I, .I, .R] Tb := fun a b c d => [cA 0 (.own 900000000), cA 2 (.fn 176 [[.s a]]), cI 10 b, cI 12 c, oR 1800000001 86 d]
def L175_5 (N : Nat) {R : Type} (K : Kt R) := U175.l5 N (J T175_5 (.exit 0) K)
def it175 (N : Nat) {R : Type} : It R := (lp 5 (al T175_5 (fun K => L175_5 N K N) an) ln)
theorem lo175_5 {R : Type} (N : Nat) : LoopOk E175 (it175 N (R := R)) (loopOf Try.f175 5) := lq 5 T175_5 (L175_5 N) fun K g => U175.r5 N g (J T175_5 (.exit 0) K)
def sp175 := spf A175 k175 U175.c U175.v
theorem ok175 : FnOk Try.prog T 175 sp175 := fq (E := E175) (call_cons ok80a (call_cons ok80b (call_cons ok176 call_nil))) Try.func175 (it := fun N => it175 N) (fun N => (loops_cons (lo175_5 N) loops_nil)) U175.b U175.vo

def E85 := en [(168, sp168), (175, sp175)] []
def A85 : Fn [.R, .S] As := fun a b => [aH 86 a, aS b]
def k85 : Fn [.R] Res := fun a => ⟨[aO 86 a], []⟩
def sp85 := spf A85 k85 U85.c U85.v
theorem ok85 : FnOk Try.prog T 85 sp85 := fr (E := E85) (call_cons ok168 (call_cons ok175 call_nil)) Try.func85 U85.b U85.vo

def rho160 : Go.Shelf.Ren := ⟨fun n => bif Nat.beq n 22 then 160 else bif Nat.beq n 29 then 217 else 218, fun n => bif Nat.beq n 24 then 28 else bif Nat.beq n 9 then 86 else bif Nat.beq n 3 then 3 else bif Nat.beq n 4 then 4 else n, fun n => n⟩
def sp160 : List Arg -> Option (Bool × Res) := Ins.insSpec 86 48
theorem ins160 : Ins.L Try.prog rho160 "slices.Insert[[]loop.example/g00245/impl.Entry,loop.example/g00245/impl.Entry]" 4 where
 mixed := hM
 f22 := Try.func160.trans (by kernel_rfl)
 t3 := by kernel_rfl
 a3 := Ins.agg_false (P := Try.prog) (t := 3) (d := .int .i64) (by kernel_rfl) rfl
 t4 := by kernel_rfl
 a4 := Ins.agg_false (P := Try.prog) (t := 4) (d := .bool) (by kernel_rfl) rfl
 t24 := by kernel_rfl
 a24 := Ins.agg_false (P := Try.prog) (t := 28) (d := .slice 86) (by kernel_rfl) rfl
 z9 := Ins.size_of hE (t := 86) (ti := ⟨true, [.s, .i .i64, .i .i64, .s], 48⟩) (by kernel_rfl)
theorem ok160 : FnOk Try.prog T 160 sp160 :=
 Ins.insert_ok (e := 86) (te := ⟨true, [.s, .i .i64, .i .i64, .s], 48⟩) (by kernel_rfl) rfl (by kernel_rfl) hE ins160
  (fun args w => run_callFunc_extern (e := Extern.SlicesOverlaps.overlaps #[28, 28] #[4]) Try.func217 (by kernel_rfl) (by kernel_rfl) (by kernel_rfl) (by kernel_rfl) args w)
  ⟨_, Try.func160, by kernel_rfl, by kernel_rfl⟩

def E69 := en [(85, sp85), (160, sp160)] [(3, [3, 5, 6])]
def A69 : Fn [.R, .S, .I, .I, .S] As := fun a b c d e => [aH 86 a, aV [.s b, .n c, .n d, .s e]]
def k69 : Fn [.R] Res := fun a => ⟨[aO 86 a], []⟩
def T69_3 : Fn [.I, .S, .I, .I, .S, .R] Tb := fun a b c d e f => [cP 6 0, cA 10 (.own 1), cI 12 a, oB 1 [.s b, .n c, .n d, .s e], oR 3 86 f]
def L69_3 (N : Nat) {R : Type} (K : Kt R) := U69.l3 N (J T69_3 (.exit 0) K)
def it69 (N : Nat) {R : Type} : It R := (lp 3 (al T69_3 (fun K => L69_3 N K N) an) ln)
theorem lo69_3 {R : Type} (N : Nat) : LoopOk E69 (it69 N (R := R)) (loopOf Try.f69 3) := lq 3 T69_3 (L69_3 N) fun K g => U69.r3 N g (J T69_3 (.exit 0) K)
def sp69 := spf A69 k69 U69.c U69.v
theorem ok69 : FnOk Try.prog T 69 sp69 := fq (E := E69) (call_cons ok85 (call_cons ok160 call_nil)) Try.func69 (it := fun N => it69 N) (fun N => (loops_cons (lo69_3 N) loops_nil)) U69.b U69.vo

def E20 := en [(60, sp60), (62, sp62), (67, sp67), (68, sp68), (69, sp69)] [(7, [3, 27, 28, 29])]
def A20 : Fn [.R] As := fun a => [aV [.sh 159 a]]
def k20 : Fn [.R] Res := fun a => ⟨[aO 86 a], []⟩
def T20_7 : Fn [.I, .I, .R, .R] Tb := fun a b c d => [cA 6 (.own 0), cA 54 (.own 1), cI 56 a, cI 58 b, oR 1 86 c, oR 3 9 d]
def L20_7 (N : Nat) {R : Type} (K : Kt R) := U20.l7 N (J T20_7 (.exit 0) K)
def it20 (N : Nat) {R : Type} : It R := (lp 7 (al T20_7 (fun K => L20_7 N K N) an) ln)
theorem lo20_7 {R : Type} (N : Nat) : LoopOk E20 (it20 N (R := R)) (loopOf Try.f20 7) := lq 7 T20_7 (L20_7 N) fun K g => U20.r7 N g (J T20_7 (.exit 0) K)
def sp20 := spf A20 k20 U20.c U20.v
theorem ok20 : FnOk Try.prog T 20 sp20 := fq (E := E20) (call_cons ok60 (call_cons ok62 (call_cons ok67 (call_cons ok68 (call_cons ok69 call_nil))))) Try.func20 (it := fun N => it20 N) (fun N => (loops_cons (lo20_7 N) loops_nil)) U20.b U20.vo

def E19 := en [] [(4, [0, 1, 4, 5])]
def A19 : Fn [.R, .R] As := fun a b => [aH 86 a, aH 86 b]
def k19 : Fn [.B] Res := fun a => ⟨[aB a], []⟩
def T19_4 : Fn [.R, .R, .B, .I] Tb := fun a b c d => [cH 0 86 a, cH 2 86 b, cA 8 (.b c), cI 10 d]
def L19_4 (N : Nat) {R : Type} (K : Kt R) := U19.l4 N (J T19_4 .ret K) (J T19_4 (.exit 0) K)
def it19 (N : Nat) {R : Type} : It R := (lp 4 (al T19_4 (fun K => L19_4 N K N) an) ln)
theorem lo19_4 {R : Type} (N : Nat) : LoopOk E19 (it19 N (R := R)) (loopOf Try.f19 4) := lq 4 T19_4 (L19_4 N) fun K g => U19.r4 N g (J T19_4 .ret K) (J T19_4 (.exit 0) K)
def sp19 := spf A19 k19 U19.c U19.v
theorem ok19 : FnOk Try.prog T 19 sp19 := fq (E := E19) call_nil Try.func19 (it := fun N => it19 N) (fun N => (loops_cons (lo19_4 N) loops_nil)) U19.b U19.vo

def E22 := en [] [(3, [0, 3, 4])]
def A22 : Fn [.R] As := fun a => [aH 3 a]
def k22 : Fn [.R] Res := fun a => ⟨[aO 3 a], []⟩
def T22_3 : Fn [.R, .I, .R] Tb := fun a b c => [cH 0 3 a, cA 6 (.own 0), cI 8 b, oR 1 3 c]
def L22_3 (N : Nat) {R : Type} (K : Kt R) := U22.l3 N (J T22_3 (.exit 0) K)
def it22 (N : Nat) {R : Type} : It R := (lp 3 (al T22_3 (fun K => L22_3 N K N) an) ln)
theorem lo22_3 {R : Type} (N : Nat) : LoopOk E22 (it22 N (R := R)) (loopOf Try.f22 3) := lq 3 T22_3 (L22_3 N) fun K g => U22.r3 N g (J T22_3 (.exit 0) K)
def sp22 := spf A22 k22 U22.c U22.v
theorem ok22 : FnOk Try.prog T 22 sp22 := fq (E := E22) call_nil Try.func22 (it := fun N => it22 N) (fun N => (loops_cons (lo22_3 N) loops_nil)) U22.b U22.vo

def E71 := en [(60, sp60), (65, sp65)] [(5, [1, 4, 6, 17, 18, 19])]
def A71 : Fn [.R, .R] As := fun a b => [aV [.sh 159 a], aH 3 b]
def k71 : Fn [.R, .B] Res := fun a b => ⟨[aV [.ow 159 true a], aB b], []⟩
def T71_5 : Fn [.R, .R, .I, .I, .R] Tb := fun a b c d e => [cH 2 3 a, cP 8 0, cP 12 1, cH 34 159 b, cI 36 c, cI 38 d, oB 1 [.nl], oB 3 [.own 2], oR 5 159 e]
def L71_5 (N : Nat) {R : Type} (K : Kt R) := U71.l5 N (J T71_5 (.exit 0) K)
def it71 (N : Nat) {R : Type} : It R := (lp 5 (al T71_5 (fun K => L71_5 N K N) an) ln)
theorem lo71_5 {R : Type} (N : Nat) : LoopOk E71 (it71 N (R := R)) (loopOf Try.f71 5) := lq 5 T71_5 (L71_5 N) fun K g => U71.r5 N g (J T71_5 (.exit 0) K)
def sp71 := spf A71 k71 U71.c U71.v
theorem ok71 : FnOk Try.prog T 71 sp71 := fq (E := E71) (call_cons ok60 (call_cons ok65 call_nil)) Try.func71 (it := fun N => it71 N) (fun N => (loops_cons (lo71_5 N) loops_nil)) U71.b U71.vo

def E21 := en [(70, sp70), (17, sp17), (71, sp71)] []
def A21 : Fn [.R, .R, .I, .R] As := fun a b c d => [aV [.sh 159 a], aH 106 b, aI c, aH 3 d]
def k21 : Fn [.R, .B] Res := fun a b => ⟨[aV [.ow 159 true a], aB b], []⟩
def sp21 := spf A21 k21 U21.c U21.v
theorem ok21 : FnOk Try.prog T 21 sp21 := fr (E := E21) (call_cons ok70 (call_cons ok17 (call_cons ok71 call_nil))) Try.func21 U21.b U21.vo

def E165 := en [] [(3, [0, 1, 5, 6])]
def A165 : Fn [.I, .I] As := fun a b => [aI a, .v false [.i .u8 b]]
def k165 : Fn [.S] Res := fun a => ⟨[aS a], []⟩
def T165_3 : Fn [.I, .I, .I, .R] Tb := fun a b c d => [cI 0 a, cA 2 (.i .u8 b), cA 10 (.own 0), cI 12 c, oR 1 5 d]
def L165_3 (N : Nat) {R : Type} (K : Kt R) := U165.l3 N (J T165_3 (.exit 0) K)
def it165 (N : Nat) {R : Type} : It R := (lp 3 (al T165_3 (fun K => L165_3 N K N) an) ln)
theorem lo165_3 {R : Type} (N : Nat) : LoopOk E165 (it165 N (R := R)) (loopOf Try.f165 3) := lq 3 T165_3 (L165_3 N) fun K g => U165.r3 N g (J T165_3 (.exit 0) K)
def sp165 := spf A165 k165 U165.c U165.v
theorem ok165 : FnOk Try.prog T 165 sp165 := fq (E := E165) call_nil Try.func165 (it := fun N => it165 N) (fun N => (loops_cons (lo165_3 N) loops_nil)) U165.b U165.vo

def E73 := en [(72, sp72), (59, sp59), (164, sp164), (162, sp162), (165, sp165)] []
def A73 : Fn [.R, .I, .I] As := fun a b c => [.pt [.sh 5 a, .n b, .n c]]
def k73 : Fn [.S, .I, .I, .S, .R, .I, .I] Res := fun a b c d e f g => ⟨[aV [.s a, .n b, .n c, .s d]], [[.sh 5 e, .n f, .n g]]⟩
def sp73 := spf A73 k73 U73.c U73.v
theorem ok73 : FnOk Try.prog T 73 sp73 := fr (E := E73) (call_cons ok72 (call_cons ok59 (call_cons ok164 (call_cons ok162 (call_cons ok165 call_nil))))) Try.func73 U73.b U73.vo

def E23 := en [(52, sp52), (59, sp59), (72, sp72), (73, sp73), (51, sp51), (74, sp74)] [(5, [2, 4, 5, 6, 7])]
def A23 : Fn [.R] As := fun a => [aH 5 a]
def k23 : Fn [.R, .R] Res := fun a b => ⟨[aV [.ow 159 true a], aO 86 b], []⟩
def T23_5 : Fn [.I, .I, .R, .I, .I, .R] Tb := fun a b c d e f => [cP 4 0, cP 8 1, cI 10 a, cA 12 (.own 2), cI 14 b, oB 1 [.nl], oB 3 [.sh 5 c, .n d, .n e], oR 5 86 f]
def L23_5 (N : Nat) {R : Type} (K : Kt R) := U23.l5 N (J T23_5 (.exit 0) K)
def it23 (N : Nat) {R : Type} : It R := (lp 5 (al T23_5 (fun K => L23_5 N K N) an) ln)
theorem lo23_5 {R : Type} (N : Nat) : LoopOk E23 (it23 N (R := R)) (loopOf Try.f23 5) := lq 5 T23_5 (L23_5 N) fun K g => U23.r5 N g (J T23_5 (.exit 0) K)
def sp23 := spf A23 k23 U23.c U23.v
theorem ok23 : FnOk Try.prog T 23 sp23 := fq (E := E23) (call_cons ok52 (call_cons ok59 (call_cons ok72 (call_cons ok73 (call_cons ok51 (call_cons ok74 call_nil)))))) Try.func23 (it := fun N => it23 N) (fun N => (loops_cons (lo23_5 N) loops_nil)) U23.b U23.vo

def E3 := en [(11, sp11), (12, sp12), (13, sp13), (14, sp14), (15, sp15), (16, sp16), (17, sp17), (18, sp18), (20, sp20), (19, sp19), (22, sp22), (21, sp21), (23, sp23)] [(14, [0, 2, 3, 4, 5, 6, 12])]
def A3 : Fn [.R] As := fun a => [aH 5 a]
def k3 : Fn [.B] Res := fun a => ⟨[aB a], []⟩
def T3_14 : Fn [.R, .B, .N, .N, .I, .R, .R, .R, .R] Tb := fun a b c d e f g h i => [cH 0 5 a, cA 4 (.b b), cP 6 0, cA 8 (.vw 1 c d), cA 10 (.own 2), cA 12 (.own 3), cI 24 e, oB 1 [.own 4], oR 3 86 f, oR 5 3 g, oR 7 106 h, oR 9 159 i]
def T3_14a : Fn [.R, .B, .I, .R, .R, .R, .R] Tb := fun a b c d e f g => [cH 0 5 a, cA 4 (.b b), cP 6 0, cA 8 (.own 1), cA 10 (.own 2), cA 12 (.own 3), cI 24 c, oB 1 [.own 4], oR 3 86 d, oR 5 3 e, oR 7 106 f, oR 9 159 g]
def L3_14 (N : Nat) {R : Type} (K : Kt R) := U3.l14 N (J T3_14 .ret K) (J T3_14 (.exit 0) K) (J T3_14a .ret K) (J T3_14a (.exit 0) K)
def L3_14a (N : Nat) {R : Type} (K : Kt R) := U3.l14a N (J T3_14 .ret K) (J T3_14 (.exit 0) K) (J T3_14a .ret K) (J T3_14a (.exit 0) K)
def it3 (N : Nat) {R : Type} : It R := (lp 14 (al T3_14 (fun K => L3_14 N K N) (al T3_14a (fun K => L3_14a N K N) an)) ln)
theorem w3_14a {R : Type} (N : Nat) (K : Kt R) : Wd E3 (it3 N) (loopOf Try.f3 14) 14 K T3_14a (L3_14a N K) := lw (fun g => U3.r14a N (cmp _ T3_14 (g ∘ tabl)) (cmp _ T3_14a (g ∘ tabl)) (J T3_14 .ret K) (J T3_14 (.exit 0) K) (J T3_14a .ret K) (J T3_14a (.exit 0) K)) fun m i => by simp only [Function.comp_def, wf i]; rfl
theorem w3_14 {R : Type} (N : Nat) (K : Kt R) : Wd E3 (it3 N) (loopOf Try.f3 14) 14 K T3_14 (L3_14 N K) := lw (fun g => U3.r14 N (cmp _ T3_14 (g ∘ tabl)) (cmp _ T3_14a (g ∘ tabl)) (J T3_14 .ret K) (J T3_14 (.exit 0) K) (J T3_14a .ret K) (J T3_14a (.exit 0) K)) fun m i => by simp only [Function.comp_def, wf i, wf (w3_14a N K m)]; rfl
theorem lo3_14 {R : Type} (N : Nat) : LoopOk E3 (it3 N (R := R)) (loopOf Try.f3 14) := lm 14 (ga T3_14 (w3_14 N) (ga T3_14a (w3_14a N) good_an))
def sp3 := spf A3 k3 U3.c U3.v
theorem ok3 : FnOk Try.prog T 3 sp3 := fq (E := E3) (call_cons ok11 (call_cons ok12 (call_cons ok13 (call_cons ok14 (call_cons ok15 (call_cons ok16 (call_cons ok17 (call_cons ok18 (call_cons ok20 (call_cons ok19 (call_cons ok22 (call_cons ok21 (call_cons ok23 call_nil))))))))))))) Try.func3 (it := fun N => it3 N) (fun N => (loops_cons (lo3_14 N) loops_nil)) U3.b U3.vo

def E43 := en [(61, sp61)] []
def A43 : Fn [.S, .I, .I, .S] As := fun a b c d => [aV [.s a, .n b, .n c, .s d]]
def k43 : Fn [.R, .B] Res := fun a b => ⟨[aO 106 a, aB b], []⟩
def sp43 := spf A43 k43 U43.c U43.v

end Go.FG.Se
