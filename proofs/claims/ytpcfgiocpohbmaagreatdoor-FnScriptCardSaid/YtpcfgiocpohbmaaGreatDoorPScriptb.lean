/- Functions of the program, told as functions of numbers, texts and lists, and what each comes to. No condition but those that each states. -/
import Derived.Test.YtpcfgiocpohbmaaGreatDoorLib
import Derived.Test.YtpcfgiocpohbmaaGreatDoorPScripta
set_option linter.all false
set_option maxRecDepth 100000
set_option autoImplicit true
set_option relaxedAutoImplicit true
open Bool renaming false->aq,true->ao
open ByteArray renaming size->bf,mk->aw,toList->aF,extract->bx
open Decidable renaming decide->ah
open Go.IntKind renaming i64->ak
open Int renaming toNat->aP,neg->s9
open List renaming set->aC,beq->cD
open Option renaming none->ay,some->ai
open UInt8 renaming ofNat->aj
open _root_ renaming Nat->aN,cond->aT,ByteArray->ar,Option->aG,Int->az,Bool->aZ
namespace Go.FG
open _root_.Go.FG.Lib (lT sV cw zS CK vJ cm dh IQ ES G1 sn oY gO gP ic uW rz fO sI nR ea h_ sJ b6 cj dK Ce iq vb cG)
variable {R:Type}
namespace U7
def PX(N:aN)(g h:gZ R):gZ R:=λa d e f=>aT (ah (e<d)) (bY e f.length<|bw (ah (bf (aw #[aj 32])+(bn (av f e.toNat 0)).size<=4611686018427387904))<|kE a ((aw #[aj 32])++bn (av f e.toNat 0))<|g (a++((aw #[aj 32])++bn (av f e.toNat 0))) d (bA (e+1)) f)<|h a d e f
def Ek(N:aN)(a:gZ R):aN->gZ R
 |0=>λ_ _ _ _=>ay
 |n+1=>PX N (Ek N a n) a
def r7(N:aN)(g k:jh R):jh R:=λa d e f h i j l m o p q r s t=>aT (ah (d<a)) (bY d j.length<|gb tU.c tU.v (bO (av j d.toNat 0)) λu=>bw (b_ (i.length+(aC (aR [.s] 1) 0 [.s u]).length) 16)<|g a (bA (d+1)) e f h (i++aC (aR [.s] 1) 0 [.s u]) j l m o p q r s t)<|k a d e f h i j l m o p q r s t
def l7(N:aN)(a:jh R):aN->jh R
 |0=>λ_ _ _ _ _ _ _ _ _ _ _ _ _ _ _=>ay
 |n+1=>r7 N (l7 N a n) a
def b(N:aN)(k:ar->aG R)(a:ar):aG R:=gb Qk.c Qk.v a λd=>aT (d.2 !=0) (gb tU.c tU.v d.2 λe=>bw (ah (bf (aw #[aj 102,aj 97,aj 117,aj 108,aj 116,aj 32])+e.size<=4611686018427387904))<|bw (ah (((aw #[aj 102,aj 97,aj 117,aj 108,aj 116,aj 32])++e).size+bf (aw #[aj 10])<=4611686018427387904))<|k ((aw #[aj 102,aj 97,aj 117,aj 108,aj 116,aj 32])++e++(aw #[aj 10])))<|gb Io.c Io.v d.1 λe=>l7 N (λ_ _ f h i j _ l m o p q r _ _=>iU D_.c D_.v j (aw #[aj 32]) λs=>aT (!List.beq (aF s) (aF ⟨#[]⟩)) (bw (ah (s.size+bf (aw #[aj 10])<=4611686018427387904))<|nh H3.c H3.v f l m o p h q r i λt=>bw (ah (t.size+bf (aw #[aj 104,aj 105,aj 116,aj 115,aj 32])<=4611686018427387904))<|gb tU.c tU.v i λu=>kE (t++(aw #[aj 104,aj 105,aj 116,aj 115,aj 32])) u<|bw (ah ((t++(aw #[aj 104,aj 105,aj 116,aj 115,aj 32])++u).size+bf (aw #[aj 32,aj 107,aj 101,aj 112,aj 116])<=4611686018427387904))<|kE (s++(aw #[aj 10])) (t++(aw #[aj 104,aj 105,aj 116,aj 115,aj 32])++u++(aw #[aj 32,aj 107,aj 101,aj 112,aj 116]))<|Ek N (λw _ _ _=>bw (ah (w.size+bf (aw #[aj 10])<=4611686018427387904))<|k (w++(aw #[aj 10]))) N (s++(aw #[aj 10])++(t++(aw #[aj 104,aj 105,aj 116,aj 115,aj 32])++u++(aw #[aj 32,aj 107,aj 101,aj 112,aj 116]))) (l.length:az) 0 l)<|nh H3.c H3.v f l m o p h q r i λt=>bw (ah (t.size+bf (aw #[aj 104,aj 105,aj 116,aj 115,aj 32])<=4611686018427387904))<|gb tU.c tU.v i λu=>kE (t++(aw #[aj 104,aj 105,aj 116,aj 115,aj 32])) u<|bw (ah ((t++(aw #[aj 104,aj 105,aj 116,aj 115,aj 32])++u).size+bf (aw #[aj 32,aj 107,aj 101,aj 112,aj 116])<=4611686018427387904))<|kE s (t++(aw #[aj 104,aj 105,aj 116,aj 115,aj 32])++u++(aw #[aj 32,aj 107,aj 101,aj 112,aj 116]))<|Ek N (λw _ _ _=>bw (ah (w.size+bf (aw #[aj 10])<=4611686018427387904))<|k (w++(aw #[aj 10]))) N (s++(t++(aw #[aj 104,aj 105,aj 116,aj 115,aj 32])++u++(aw #[aj 32,aj 107,aj 101,aj 112,aj 116]))) (l.length:az) 0 l) N (e.2.2.2.2.2.2.2.2.2.2.1.length:az) 0 e.1 (du e) (je e) (aR [.s] 0) (jC e) e.2.1 e.2.2.1 (cq e) (db e) (cC e) (dm e) (ni e) (mC e)
def vo:=b cw λa=>ai a
def c:=kq vo
def v:=kA vo
def out:kt vo c v x:=kF
end U7
namespace Vu
def b(k:iW R):iW R:=λa d e f h i j l m o p q=>nh lh.c lh.v a d e f h i j l m λr=>bw (b_ ((aR [Ck.s,Ck.s,Ck.i ak] 0).length+o.length) 40)<|bw (b_ ((aR [Ck.i ak] 0).length+p.length) 8)<|bw (b_ ((aR [Ck.s,Ck.i ak,Ck.i ak,Ck.s] 0).length+q.length) 48)<|k r.1 r.2.1 r.2.2.1 (cq r) (db r) (du r) (cC r) (dm r) (dP r) (aR [Ck.s,Ck.s,Ck.i ak] 0++o) (aR [Ck.i ak] 0++p) (aR [Ck.s,Ck.i ak,Ck.i ak,Ck.s] 0++q)
def vo:=b λa d e f g h i j k l m n=>ai (a,d,e,f,g,h,i,j,k,l,m,n)
def c:=ZK vo
def v:=acO vo
def out:abr vo c v x:=ajG
end Vu
namespace MT
def Yz(N:aN)(g k:jF R):jF R:=λa d e f h i j l m o p q r s t u w=>aT (ah (d<(a.length:az))) (bY d a.length<|pI GN.c GN.v i m o p q j r s l t u w (bO (av a d.toNat 0)) (bO (av a d.toNat 1)) (bn (av a d.toNat (1+1))) (bO (av a d.toNat (1+1+1))) (jd (av a d.toNat (1+1+1+1))) λy=>g a (bA (d+1)) e f h y.1 (du y) (je y) y.2.1 y.2.2.1 (cq y) (db y) (cC y) (dm y) (ni y) (jC y) (q9 y))<|k a d e f h i j l m o p q r s t u w
def l10(N:aN)(a:jF R):aN->jF R
 |0=>λ_ _ _ _ _ _ _ _ _ _ _ _ _ _ _ _ _=>ay
 |n+1=>Yz N (l10 N a n) a
def r3(N:aN)(g j:wW R):wW R:=λa d e f h i=>aT (ah (e<(a.length:az))) (aT d (bY e a.length<|g a (ZG.v (bO (av a e.toNat 0)) (bO (av a e.toNat 1)) (bn (av a e.toNat (1+1))) (bO (av a e.toNat (1+1+1))) (jd (av a e.toNat (1+1+1+1)))) (bA (e+1)) f h i)<|j a d e f h i)<|j a d e f h i
def l3(N:aN)(a:wW R):aN->wW R
 |0=>λ_ _ _ _ _ _=>ay
 |n+1=>r3 N (l3 N a n) a
def b(N:aN)(k:sQ R)(a:Row):aG R:=l3 N (λd e _ f h i=>aT (!e) (k 0 [] [] [] [] 0 [] [] 0 [] [] [] aq)<|l10 N (λ_ _ _ _ _ j l m o p q r s t u w y=>ZU Vu.c Vu.v j o p q r l s t m u w y λz=>k z.1 z.2.1 z.2.2.1 (cq z) (db z) (du z) (cC z) (dm z) (je z) (ni z) (jC z) (q9 z) ao) N d 0 f h i 1 0 0 [] [] [] ([]++aC (aR [Ck.l 3] 1) 0 [CV.l 3 (aR [Ck.i ak] (aP 16))]++aC (aR [Ck.l 3] 1) 0 [CV.l 3 (aR [Ck.i ak] (aP 16))]++aC (aR [Ck.l 3] 1) 0 [CV.l 3 (aR [Ck.i ak] (aP 16))]) [] [] [] [] []) N a (ah ((a.length:az)<=70)) 0 0 0 0
def vo:=b cw λa d e f g h i j k l m n o=>ai (a,d,e,f,g,h,i,j,k,l,m,n,o)
def c:=kq vo
def v:=kA vo
def out:kt vo c v x:=kF
end MT
namespace AG
def b(d:ar->aG R)(a:az):aG R:=aT (ah (a<0)) (d (aw #[aj 48]))<|bw (pT.c a)<|d (pT.v a)
def vo:=b λa=>ai a
def c:=kq vo
def v:=kA vo
def out:kt vo c v x:=kF
end AG
namespace Ki
def r3(N:aN)(g k:nJ R):nJ R:=λa d e f h i j l m o p=>aT (ah (d<(o.length:az))) (bY d o.length<|aT (ah (bO (av o d.toNat (1+1+1+1))=1)) (aT (ah (bO (av o d.toNat (1+1+1+1))=2)) (gb AG.c AG.v (bO (av o d.toNat 0)) λq=>kE a q<|bw (ah ((a++q).size+bf (aw #[aj 32])<=4611686018427387904))<|bw (ah ((a++q++(aw #[aj 32])).size+bf (aw #[aj 100,aj 111,aj 110,aj 101])<=4611686018427387904))<|bw (ah ((a++q++(aw #[aj 32])++(aw #[aj 100,aj 111,aj 110,aj 101])).size+bf (aw #[aj 32])<=4611686018427387904))<|gb AG.c AG.v (bO (av o d.toNat (1+1+1+1+1+1))) λr=>kE (a++q++(aw #[aj 32])++(aw #[aj 100,aj 111,aj 110,aj 101])++(aw #[aj 32])) r<|bw (ah ((a++q++(aw #[aj 32])++(aw #[aj 100,aj 111,aj 110,aj 101])++(aw #[aj 32])++r).size+bf (aw #[aj 32])<=4611686018427387904))<|bw (ah ((a++q++(aw #[aj 32])++(aw #[aj 100,aj 111,aj 110,aj 101])++(aw #[aj 32])++r++(aw #[aj 32])).size+(bn (av o d.toNat (1+1+1+1+1))).size<=4611686018427387904))<|bw (ah ((a++q++(aw #[aj 32])++(aw #[aj 100,aj 111,aj 110,aj 101])++(aw #[aj 32])++r++(aw #[aj 32])++bn (av o d.toNat (1+1+1+1+1))).size+bf (aw #[aj 10])<=4611686018427387904))<|g (a++q++(aw #[aj 32])++(aw #[aj 100,aj 111,aj 110,aj 101])++(aw #[aj 32])++r++(aw #[aj 32])++bn (av o d.toNat (1+1+1+1+1))++(aw #[aj 10])) (bA (d+1)) e f h i j l m o p)<|gb AG.c AG.v (bO (av o d.toNat 0)) λq=>kE a q<|bw (ah ((a++q).size+bf (aw #[aj 32])<=4611686018427387904))<|bw (ah ((a++q++(aw #[aj 32])).size+bf (aw #[aj 119,aj 97,aj 105,aj 116,aj 115])<=4611686018427387904))<|bw (ah ((a++q++(aw #[aj 32])++(aw #[aj 119,aj 97,aj 105,aj 116,aj 115])).size+bf (aw #[aj 32])<=4611686018427387904))<|gb AG.c AG.v (bO (av o d.toNat (1+1+1+1+1+1))) λr=>kE (a++q++(aw #[aj 32])++(aw #[aj 119,aj 97,aj 105,aj 116,aj 115])++(aw #[aj 32])) r<|bw (ah ((a++q++(aw #[aj 32])++(aw #[aj 119,aj 97,aj 105,aj 116,aj 115])++(aw #[aj 32])++r).size+bf (aw #[aj 32])<=4611686018427387904))<|bw (ah ((a++q++(aw #[aj 32])++(aw #[aj 119,aj 97,aj 105,aj 116,aj 115])++(aw #[aj 32])++r++(aw #[aj 32])).size+(bn (av o d.toNat (1+1+1+1+1))).size<=4611686018427387904))<|bw (ah ((a++q++(aw #[aj 32])++(aw #[aj 119,aj 97,aj 105,aj 116,aj 115])++(aw #[aj 32])++r++(aw #[aj 32])++bn (av o d.toNat (1+1+1+1+1))).size+bf (aw #[aj 10])<=4611686018427387904))<|g (a++q++(aw #[aj 32])++(aw #[aj 119,aj 97,aj 105,aj 116,aj 115])++(aw #[aj 32])++r++(aw #[aj 32])++bn (av o d.toNat (1+1+1+1+1))++(aw #[aj 10])) (bA (d+1)) e f h i j l m o p)<|aT (ah (bO (av o d.toNat (1+1+1+1))=2)) (gb AG.c AG.v (bO (av o d.toNat 0)) λq=>kE a q<|bw (ah ((a++q).size+bf (aw #[aj 32])<=4611686018427387904))<|bw (ah ((a++q++(aw #[aj 32])).size+bf (aw #[aj 100,aj 111,aj 110,aj 101])<=4611686018427387904))<|bw (ah ((a++q++(aw #[aj 32])++(aw #[aj 100,aj 111,aj 110,aj 101])).size+bf (aw #[aj 32])<=4611686018427387904))<|gb AG.c AG.v (bO (av o d.toNat (1+1+1+1+1+1))) λr=>kE (a++q++(aw #[aj 32])++(aw #[aj 100,aj 111,aj 110,aj 101])++(aw #[aj 32])) r<|bw (ah ((a++q++(aw #[aj 32])++(aw #[aj 100,aj 111,aj 110,aj 101])++(aw #[aj 32])++r).size+bf (aw #[aj 32])<=4611686018427387904))<|bw (ah ((a++q++(aw #[aj 32])++(aw #[aj 100,aj 111,aj 110,aj 101])++(aw #[aj 32])++r++(aw #[aj 32])).size+(bn (av o d.toNat (1+1+1+1+1))).size<=4611686018427387904))<|bw (ah ((a++q++(aw #[aj 32])++(aw #[aj 100,aj 111,aj 110,aj 101])++(aw #[aj 32])++r++(aw #[aj 32])++bn (av o d.toNat (1+1+1+1+1))).size+bf (aw #[aj 10])<=4611686018427387904))<|g (a++q++(aw #[aj 32])++(aw #[aj 100,aj 111,aj 110,aj 101])++(aw #[aj 32])++r++(aw #[aj 32])++bn (av o d.toNat (1+1+1+1+1))++(aw #[aj 10])) (bA (d+1)) e f h i j l m o p)<|gb AG.c AG.v (bO (av o d.toNat 0)) λq=>kE a q<|bw (ah ((a++q).size+bf (aw #[aj 32])<=4611686018427387904))<|bw (ah ((a++q++(aw #[aj 32])).size+bf (aw #[aj 102,aj 97,aj 105,aj 108,aj 101,aj 100])<=4611686018427387904))<|bw (ah ((a++q++(aw #[aj 32])++(aw #[aj 102,aj 97,aj 105,aj 108,aj 101,aj 100])).size+bf (aw #[aj 32])<=4611686018427387904))<|gb AG.c AG.v (bO (av o d.toNat (1+1+1+1+1+1))) λr=>kE (a++q++(aw #[aj 32])++(aw #[aj 102,aj 97,aj 105,aj 108,aj 101,aj 100])++(aw #[aj 32])) r<|bw (ah ((a++q++(aw #[aj 32])++(aw #[aj 102,aj 97,aj 105,aj 108,aj 101,aj 100])++(aw #[aj 32])++r).size+bf (aw #[aj 32])<=4611686018427387904))<|bw (ah ((a++q++(aw #[aj 32])++(aw #[aj 102,aj 97,aj 105,aj 108,aj 101,aj 100])++(aw #[aj 32])++r++(aw #[aj 32])).size+(bn (av o d.toNat (1+1+1+1+1))).size<=4611686018427387904))<|bw (ah ((a++q++(aw #[aj 32])++(aw #[aj 102,aj 97,aj 105,aj 108,aj 101,aj 100])++(aw #[aj 32])++r++(aw #[aj 32])++bn (av o d.toNat (1+1+1+1+1))).size+bf (aw #[aj 10])<=4611686018427387904))<|g (a++q++(aw #[aj 32])++(aw #[aj 102,aj 97,aj 105,aj 108,aj 101,aj 100])++(aw #[aj 32])++r++(aw #[aj 32])++bn (av o d.toNat (1+1+1+1+1))++(aw #[aj 10])) (bA (d+1)) e f h i j l m o p)<|k a d e f h i j l m o p
def l3(N:aN)(a:nJ R):aN->nJ R
 |0=>λ_ _ _ _ _ _ _ _ _ _ _=>ay
 |n+1=>r3 N (l3 N a n) a
def b(N:aN)(k:ar->aG R):dn R:=λa d e f h i j l m=>l3 N (λo _ _ _ _ _ _ _ _ _ _=>k o) N ⟨#[]⟩ 0 a d e f h i j l m
def vo:=b cw λa=>ai a
def c:=Bm vo
def v:=Bs vo
def out:Bp vo c v x:=Df
end Ki
namespace U6
def PX(N:aN)(g k:gm R):gm R:=λa d e f h i j l m o p q r s=>aT (ah (d<(i.length:az))) (bw (ah (a.size+bf (aw #[aj 32])<=4611686018427387904))<|bY d i.length<|kE (a++(aw #[aj 32])) (bn (av i d.toNat 0))<|g (a++(aw #[aj 32])++bn (av i d.toNat 0)) (bA (d+1)) e f h i j l m o p q r s)<|k a d e f h i j l m o p q r s
def Ek(N:aN)(a:gm R):aN->gm R
 |0=>λ_ _ _ _ _ _ _ _ _ _ _ _ _ _=>ay
 |n+1=>PX N (Ek N a n) a
def r7(N:aN)(g k:gm R):gm R:=λa d e f h i j l m o p q r s=>aT (ah (d<(r.length:az))) (aT (ah (d>0)) (bw (ah (a.size+bf (aw #[aj 32])<=4611686018427387904))<|bY d r.length<|gb pT.c pT.v (bO (av r d.toNat 0)) λt=>kE (a++(aw #[aj 32])) t<|g (a++(aw #[aj 32])++t) (bA (d+1)) e f h i j l m o p q r s)<|bY d r.length<|gb pT.c pT.v (bO (av r d.toNat 0)) λt=>kE a t<|g (a++t) (bA (d+1)) e f h i j l m o p q r s)<|k a d e f h i j l m o p q r s
def l7(N:aN)(a:gm R):aN->gm R
 |0=>λ_ _ _ _ _ _ _ _ _ _ _ _ _ _=>ay
 |n+1=>r7 N (l7 N a n) a
def b(N:aN)(k:ar->aG R)(a:ar):aG R:=gb BO.c BO.v a λd=>aT (d.2 !=0) (gb pT.c pT.v d.2 λe=>bw (ah (bf (aw #[aj 102,aj 97,aj 117,aj 108,aj 116,aj 32])+e.size<=4611686018427387904))<|bw (ah (((aw #[aj 102,aj 97,aj 117,aj 108,aj 116,aj 32])++e).size+bf (aw #[aj 10])<=4611686018427387904))<|k ((aw #[aj 102,aj 97,aj 117,aj 108,aj 116,aj 32])++e++(aw #[aj 10])))<|gb MT.c MT.v d.1 λe=>l7 N (λf _ h i j l m o p q r s t u=>aT (ah ((t.length:az)>0)) (bw (ah (f.size+bf (aw #[aj 10])<=4611686018427387904))<|nh Ki.c Ki.v h l m o p i q r j λw=>kE (f++(aw #[aj 10])) w<|bw (ah ((f++(aw #[aj 10])++w).size+bf (aw #[aj 104,aj 105,aj 116,aj 115,aj 32])<=4611686018427387904))<|gb pT.c pT.v j λy=>kE (f++(aw #[aj 10])++w++(aw #[aj 104,aj 105,aj 116,aj 115,aj 32])) y<|bw (ah ((f++(aw #[aj 10])++w++(aw #[aj 104,aj 105,aj 116,aj 115,aj 32])++y).size+bf (aw #[aj 32,aj 107,aj 101,aj 112,aj 116])<=4611686018427387904))<|Ek N (λz _ _ _ _ _ _ _ _ _ _ _ _ _=>bw (ah (z.size+bf (aw #[aj 10])<=4611686018427387904))<|k (z++(aw #[aj 10]))) N (f++(aw #[aj 10])++w++(aw #[aj 104,aj 105,aj 116,aj 115,aj 32])++y++(aw #[aj 32,aj 107,aj 101,aj 112,aj 116])) 0 h i j l m o p q r s t u)<|nh Ki.c Ki.v h l m o p i q r j λw=>kE f w<|bw (ah ((f++w).size+bf (aw #[aj 104,aj 105,aj 116,aj 115,aj 32])<=4611686018427387904))<|gb pT.c pT.v j λy=>kE (f++w++(aw #[aj 104,aj 105,aj 116,aj 115,aj 32])) y<|bw (ah ((f++w++(aw #[aj 104,aj 105,aj 116,aj 115,aj 32])++y).size+bf (aw #[aj 32,aj 107,aj 101,aj 112,aj 116])<=4611686018427387904))<|Ek N (λz _ _ _ _ _ _ _ _ _ _ _ _ _=>bw (ah (z.size+bf (aw #[aj 10])<=4611686018427387904))<|k (z++(aw #[aj 10]))) N (f++w++(aw #[aj 104,aj 105,aj 116,aj 115,aj 32])++y++(aw #[aj 32,aj 107,aj 101,aj 112,aj 116])) 0 h i j l m o p q r s t u) N ⟨#[]⟩ 0 e.1 (du e) (je e) e.2.1 e.2.2.1 (cq e) (db e) (cC e) (dm e) (ni e) (jC e) (mC e)
def vo:=b cw λa=>ai a
def c:=kq vo
def v:=kA vo
def out:kt vo c v x:=kF
end U6
namespace U4
def Ly(N:aN)(g k:jl R):jl R:=λa d e f h i j l m o p q r s t u w y=>aT (ah (h<(o.length:az))) (bw (ah (f.size+bf (aw #[aj 32])<=4611686018427387904))<|bY h o.length<|kE (f++(aw #[aj 32])) (bn (av o h.toNat 0))<|g a d e (f++(aw #[aj 32])++bn (av o h.toNat 0)) (bA (h+1)) i j l m o p q r s t u w y)<|k a d e f h i j l m o p q r s t u w y
def C1(N:aN)(a:jl R):aN->jl R
 |0=>λ_ _ _ _ _ _ _ _ _ _ _ _ _ _ _ _ _ _=>ay
 |n+1=>Ly N (C1 N a n) a
def b(N:aN)(k:aZ->aG R)(a:Row):aG R:=aT (U8.v a) (k ao)<|gb U9.c U9.v a λd=>gb BO.c BO.v d λe=>gb U7.c U7.v d λf=>aT (e.2 !=0) (gb pT.c pT.v e.2 λh=>bw (ah (bf (aw #[aj 102,aj 97,aj 117,aj 108,aj 116,aj 32])+h.size<=4611686018427387904))<|bw (ah (((aw #[aj 102,aj 97,aj 117,aj 108,aj 116,aj 32])++h).size+bf (aw #[aj 10])<=4611686018427387904))<|k (cD (aF f) ((aw #[aj 102,aj 97,aj 117,aj 108,aj 116,aj 32])++h++(aw #[aj 10])).toList))<|gb Io.c Io.v e.1 λh=>gb pT.c pT.v (je h) λi=>bw (ah (bf (aw #[aj 104,aj 105,aj 116,aj 115,aj 32])+i.size<=4611686018427387904))<|bw (ah (((aw #[aj 104,aj 105,aj 116,aj 115,aj 32])++i).size+bf (aw #[aj 32,aj 107,aj 101,aj 112,aj 116])<=4611686018427387904))<|C1 N (λj l m o _ p q r s t u w y z α _ H _=>nh H3.c H3.v q t u w y r z α s λx=>kE x o<|bw (ah ((x++o).size+bf (aw #[aj 10])<=4611686018427387904))<|aT (!m) (k aq)<|aT ((H.length:az) !=(p.length:az)) (k aq)<|aT (ah ((l.size:az)<((x++o++(aw #[aj 10])).size:az))) (k aq)<|bw (gA (bA ((l.size:az)-((x++o++(aw #[aj 10])).size:az))) (l.size:az) (l.size:az))<|aT (!List.beq (bx l (bA ((l.size:az)-((x++o++(aw #[aj 10])).size:az))).toNat (l.size:az).toNat).toList (x++o++(aw #[aj 10])).toList) (k aq)<|bw (ah (bf (aw #[aj 35,aj 32,aj 115,aj 97,aj 105,aj 100,aj 10,aj 32,aj 32,aj 32,aj 10])+j.size<=4611686018427387904))<|aT (ah ((j.size:az)>0)) (bw (ah (0<=bA ((j.size:az)-1))&&ah (bA ((j.size:az)-1)<(j.size:az)))<|aT (ah ((↑(fJ j (bA ((j.size:az)-1)).toNat):az)=10)) (bw (ah (((aw #[aj 35,aj 32,aj 115,aj 97,aj 105,aj 100,aj 10,aj 32,aj 32,aj 32,aj 10])++j).size+bf (aw #[aj 32,aj 32,aj 35,aj 32,aj 109,aj 111,aj 114,aj 101,aj 10])<=4611686018427387904))<|gb BO.c BO.v ((aw #[aj 35,aj 32,aj 115,aj 97,aj 105,aj 100,aj 10,aj 32,aj 32,aj 32,aj 10])++j++(aw #[aj 32,aj 32,aj 35,aj 32,aj 109,aj 111,aj 114,aj 101,aj 10])) λA=>gb U6.c U6.v j λB=>aT (cD (aF l) (aF B)) (aT (ah (A.2=s9 1)) (k ao)<|gb U7.c U7.v ((aw #[aj 35,aj 32,aj 115,aj 97,aj 105,aj 100,aj 10,aj 32,aj 32,aj 32,aj 10])++j++(aw #[aj 32,aj 32,aj 35,aj 32,aj 109,aj 111,aj 114,aj 101,aj 10])) λC=>k (cD (aF C) (aF l)))<|k aq)<|gb BO.c BO.v ((aw #[aj 35,aj 32,aj 115,aj 97,aj 105,aj 100,aj 10,aj 32,aj 32,aj 32,aj 10])++j) λA=>gb U6.c U6.v j λB=>aT (cD (aF l) (aF B)) (aT (ah (A.2=s9 1)) (k ao)<|gb U7.c U7.v ((aw #[aj 35,aj 32,aj 115,aj 97,aj 105,aj 100,aj 10,aj 32,aj 32,aj 32,aj 10])++j) λC=>k (cD (aF C) (aF l)))<|k aq)<|gb BO.c BO.v ((aw #[aj 35,aj 32,aj 115,aj 97,aj 105,aj 100,aj 10,aj 32,aj 32,aj 32,aj 10])++j) λA=>gb U6.c U6.v j λB=>aT (cD (aF l) (aF B)) (aT (ah (A.2=s9 1)) (k ao)<|gb U7.c U7.v ((aw #[aj 35,aj 32,aj 115,aj 97,aj 105,aj 100,aj 10,aj 32,aj 32,aj 32,aj 10])++j) λC=>k (cD (aF C) (aF l)))<|k aq) N d f (ue h) ((aw #[aj 104,aj 105,aj 116,aj 115,aj 32])++i++(aw #[aj 32,aj 107,aj 101,aj 112,aj 116])) 0 e.1 h.1 (du h) (je h) h.2.1 h.2.2.1 (cq h) (db h) (cC h) (dm h) (ni h) (jC h) (mC h)
def vo:=b cw λa=>ai a
def c:=kq vo
def v:=kA vo
def out:kt vo c v x:=kF
end U4
end Go.FG
