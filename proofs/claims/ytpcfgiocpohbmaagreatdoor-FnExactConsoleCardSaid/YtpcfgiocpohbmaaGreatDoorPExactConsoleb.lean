/- Functions of the program, told as functions of numbers, texts and lists, and what each comes to. No condition but those that each states. -/
import Derived.Test.YtpcfgiocpohbmaaGreatDoorLib
import Derived.Test.YtpcfgiocpohbmaaGreatDoorPExactConsolea
set_option linter.unusedVariables false
set_option linter.unusedSimpArgs false
set_option maxRecDepth 100000
set_option autoImplicit true
set_option relaxedAutoImplicit true
open Bool renaming true->ao,false->aq
open ByteArray renaming size->bC,mk->az,toList->aG
open Decidable renaming decide->ah
open List renaming set->aP
open Option renaming none->aj,some->ai
open UInt8 renaming ofNat->ar
open _root_ renaming Nat->aN,ByteArray->au,Int->ay,Option->aA,cond->aD,Bool->aY
namespace Go.FG
open _root_.Go.FG.Lib (lj oN ck yo Bc uD b_ c8 GZ Di E_ qZ n8 gm fE ch tJ qm fB ry mY dM gJ yH b0 dm dB Ax gU vb cw)
variable {R:Type}
namespace Il
def r3(N:aN)(g h:Ii R)(a:au)(d:Row)(e f:ay):aA R:=aD (ah (f<e)) (aD (ah (0<=f)&&ah (f<(d.length:ay))) (aD (sB.c (ea ao (bN (av d f.toNat 0)) 0)) (aD (ah ((sB.v (ea ao (bN (av d f.toNat 0)) 0)).size+bC (az #[ar 32])<=4611686018427387904)) (aD (ah ((sB.v (ea ao (bN (av d f.toNat 0)) 0)++(az #[ar 32])).size+(H0.v (bN (av d f.toNat (1+1+1+1)))).size<=4611686018427387904)) (aD (ah ((sB.v (ea ao (bN (av d f.toNat 0)) 0)++(az #[ar 32])++H0.v (bN (av d f.toNat (1+1+1+1)))).size+bC (az #[ar 32])<=4611686018427387904)) (aD (sB.c (ea ao (bN (av d f.toNat (1+1+1+1+1+1))) 0)) (aD (ah ((sB.v (ea ao (bN (av d f.toNat 0)) 0)++(az #[ar 32])++H0.v (bN (av d f.toNat (1+1+1+1)))++(az #[ar 32])).size+(sB.v (ea ao (bN (av d f.toNat (1+1+1+1+1+1))) 0)).size<=4611686018427387904)) (aD (ah ((sB.v (ea ao (bN (av d f.toNat 0)) 0)++(az #[ar 32])++H0.v (bN (av d f.toNat (1+1+1+1)))++(az #[ar 32])++sB.v (ea ao (bN (av d f.toNat (1+1+1+1+1+1))) 0)).size+bC (az #[ar 32])<=4611686018427387904)) (aD (ah ((sB.v (ea ao (bN (av d f.toNat 0)) 0)++(az #[ar 32])++H0.v (bN (av d f.toNat (1+1+1+1)))++(az #[ar 32])++sB.v (ea ao (bN (av d f.toNat (1+1+1+1+1+1))) 0)++(az #[ar 32])).size+(br (av d f.toNat (1+1+1+1+1))).size<=4611686018427387904)) (aD (ah ((sB.v (ea ao (bN (av d f.toNat 0)) 0)++(az #[ar 32])++H0.v (bN (av d f.toNat (1+1+1+1)))++(az #[ar 32])++sB.v (ea ao (bN (av d f.toNat (1+1+1+1+1+1))) 0)++(az #[ar 32])++br (av d f.toNat (1+1+1+1+1))).size+bC (az #[ar 10])<=4611686018427387904)) (aD (ah (a.size+(sB.v (ea ao (bN (av d f.toNat 0)) 0)++(az #[ar 32])++H0.v (bN (av d f.toNat (1+1+1+1)))++(az #[ar 32])++sB.v (ea ao (bN (av d f.toNat (1+1+1+1+1+1))) 0)++(az #[ar 32])++br (av d f.toNat (1+1+1+1+1))++(az #[ar 10])).size<=4611686018427387904)) (g (a++(sB.v (ea ao (bN (av d f.toNat 0)) 0)++(az #[ar 32])++H0.v (bN (av d f.toNat (1+1+1+1)))++(az #[ar 32])++sB.v (ea ao (bN (av d f.toNat (1+1+1+1+1+1))) 0)++(az #[ar 32])++br (av d f.toNat (1+1+1+1+1))++(az #[ar 10]))) d e (bE (f+1))) aj) aj) aj) aj) aj) aj) aj) aj) aj) aj) aj)<|h a d e f
def l3(N:aN)(a:Ii R):aN->Ii R
 |0=>λ_ _ _ _=>aj
 |n+1=>r3 N (l3 N a n) a
def b(N:aN)(k:au->aA R)(a:ay)(d e f h:Row)(i:ay)(j l:Row)(m:ay):aA R:=l3 N (λo _ _ _=>k o) N ⟨#[]⟩ l (l.length:ay) 0
def vo:=b ck λa=>ai a
def c:=zE vo
def v:=zI vo
theorem out{x}:zH vo c v x:=BH
end Il
namespace U7
def Ns(N:aN)(g h:iW R)(a:au)(d e:ay)(f:Row):aA R:=aD (ah (e<d)) (aD (ah (0<=e)&&ah (e<(f.length:ay))) (aD (ah (bC (az #[ar 32])+(br (av f e.toNat 0)).size<=4611686018427387904)) (aD (ah (a.size+((az #[ar 32])++br (av f e.toNat 0)).size<=4611686018427387904)) (g (a++((az #[ar 32])++br (av f e.toNat 0))) d (bE (e+1)) f) aj) aj) aj)<|h a d e f
def CN(N:aN)(a:iW R):aN->iW R
 |0=>λ_ _ _ _=>aj
 |n+1=>Ns N (CN N a n) a
def r7(N:aN)(g k:mb R)(a d e f h:ay)(i j l m o p q r s t:Row):aA R:=aD (ah (d<a)) (aD (ah (0<=d)&&ah (d<(j.length:ay))) (aD (sB.c (bN (av j d.toNat 0))) (ch (sB.v (bN (av j d.toNat 0))) λu=>aD (b8 (i.length+(aP (aT [.s] 1) 0 [.s u]).length) 16) (g a (bE (d+1)) e f h (i++aP (aT [.s] 1) 0 [.s u]) j l m o p q r s t) aj) aj) aj)<|k a d e f h i j l m o p q r s t
def l7(N:aN)(a:mb R):aN->mb R
 |0=>λ_ _ _ _ _ _ _ _ _ _ _ _ _ _ _=>aj
 |n+1=>r7 N (l7 N a n) a
def b(N:aN)(k:au->aA R)(a:au):aA R:=aD (NR.c a) (ch (NR.v a) λd=>aD (d.2 !=0) (aD (sB.c d.2) (ch (sB.v d.2) λe=>aD (ah (bC (az #[ar 102,ar 97,ar 117,ar 108,ar 116,ar 32])+e.size<=4611686018427387904)) (aD (ah (((az #[ar 102,ar 97,ar 117,ar 108,ar 116,ar 32])++e).size+bC (az #[ar 10])<=4611686018427387904)) (k ((az #[ar 102,ar 97,ar 117,ar 108,ar 116,ar 32])++e++(az #[ar 10]))) aj) aj) aj)<|aD (KF.c d.1) (ch (KF.v d.1) λe=>l7 N (λ_ _ f h i j _ l m o p q r _ _=>aD (CD.c j (az #[ar 32])) (ch (CD.v j (az #[ar 32])) λs=>aD (!List.beq (aG s) (aG ⟨#[]⟩)) (aD (ah (s.size+bC (az #[ar 10])<=4611686018427387904)) (aD (Il.c f l m o p h q r i) (ch (Il.v f l m o p h q r i) λt=>aD (ah (t.size+bC (az #[ar 104,ar 105,ar 116,ar 115,ar 32])<=4611686018427387904)) (aD (sB.c i) (ch (sB.v i) λu=>aD (ah ((t++(az #[ar 104,ar 105,ar 116,ar 115,ar 32])).size+u.size<=4611686018427387904)) (aD (ah ((t++(az #[ar 104,ar 105,ar 116,ar 115,ar 32])++u).size+bC (az #[ar 32,ar 107,ar 101,ar 112,ar 116])<=4611686018427387904)) (aD (ah ((s++(az #[ar 10])).size+(t++(az #[ar 104,ar 105,ar 116,ar 115,ar 32])++u++(az #[ar 32,ar 107,ar 101,ar 112,ar 116])).size<=4611686018427387904)) (CN N (λw _ _ _=>aD (ah (w.size+bC (az #[ar 10])<=4611686018427387904)) (k (w++(az #[ar 10]))) aj) N (s++(az #[ar 10])++(t++(az #[ar 104,ar 105,ar 116,ar 115,ar 32])++u++(az #[ar 32,ar 107,ar 101,ar 112,ar 116]))) (l.length:ay) 0 l) aj) aj) aj) aj) aj) aj) aj)<|aD (Il.c f l m o p h q r i) (ch (Il.v f l m o p h q r i) λt=>aD (ah (t.size+bC (az #[ar 104,ar 105,ar 116,ar 115,ar 32])<=4611686018427387904)) (aD (sB.c i) (ch (sB.v i) λu=>aD (ah ((t++(az #[ar 104,ar 105,ar 116,ar 115,ar 32])).size+u.size<=4611686018427387904)) (aD (ah ((t++(az #[ar 104,ar 105,ar 116,ar 115,ar 32])++u).size+bC (az #[ar 32,ar 107,ar 101,ar 112,ar 116])<=4611686018427387904)) (aD (ah (s.size+(t++(az #[ar 104,ar 105,ar 116,ar 115,ar 32])++u++(az #[ar 32,ar 107,ar 101,ar 112,ar 116])).size<=4611686018427387904)) (CN N (λw _ _ _=>aD (ah (w.size+bC (az #[ar 10])<=4611686018427387904)) (k (w++(az #[ar 10]))) aj) N (s++(t++(az #[ar 104,ar 105,ar 116,ar 115,ar 32])++u++(az #[ar 32,ar 107,ar 101,ar 112,ar 116]))) (l.length:ay) 0 l) aj) aj) aj) aj) aj) aj) aj) N (e.2.2.2.2.2.2.2.2.2.2.1.length:ay) 0 e.1 e.2.2.2.2.2.1 e.2.2.2.2.2.2.2.2.1 (aT [.s] 0) e.2.2.2.2.2.2.2.2.2.2.1 e.2.1 e.2.2.1 e.2.2.2.1 e.2.2.2.2.1 e.2.2.2.2.2.2.1 e.2.2.2.2.2.2.2.1 e.2.2.2.2.2.2.2.2.2.1 e.2.2.2.2.2.2.2.2.2.2.2.1) aj) aj
def vo:=b ck λa=>ai a
def c:=ka vo
def v:=ko vo
theorem out{x}:ki vo c v x:=kL
end U7
namespace U3
def b(f:aY->aA R)(a:au):aA R:=aD (ah ((a.size:ay)>1048576)) (f ao)<|aD (U6.c a) (ch (U6.v a) λd=>aD (U7.c a) (ch (U7.v a) λe=>aD (!List.beq (aG e) (aG d)) (f aq)<|f ao) aj) aj
def vo:=b λa=>ai a
def c:=ka vo
def v:=ko vo
theorem out{x}:ki vo c v x:=kL
end U3
end Go.FG
