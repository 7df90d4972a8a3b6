/- Functions of the program, told as functions of numbers, texts and lists, and what each comes to. No condition but those that each states. -/
import Derived.Test.YtjejmgffiilmlaaGreatLib
set_option linter.unusedVariables false
set_option linter.unusedSimpArgs false
set_option maxRecDepth 100000
open BitVec renaming toNat->dO,and->iZ,ofInt->b_,xor->lH
open Bool renaming cond_eq_ite->c8,true->ak,false->aq,false_eq_true->dj,true_and->bj,not_true->ba,and_self->aP,or_true->Iw,and_false->Gk,not_false->bX
open ByteArray renaming toList->aL,size->gh,extract->bR
open Go.IntKind renaming i64->ar,wrap->bJ,u32->d_,u8->bk
open Go.Op renaming bytesLess->cf
open Int renaming toNat->bc,fdiv->kP,pow->gZ,tmod->cF,tdiv->cS,tmod_eq_emod_of_nonneg->rZ,neg->MD
open List renaming set->aE,beq->dC,length->bW,range->cM,range'->lJ,all_cons->r_,range'_zero->PJ,range_eq_range'->PK,length_append->bO,length_singleton->bw,take->i_,drop->pj
open Nat renaming sub_zero->uF,lt_irrefl->bu
open Option renaming none->ao,some->aj
open UInt8 renaming ofNat->ax
open _root_ renaming Int->aA,Option->aD,ByteArray->au,Bool->aY,Nat->aG,cond_true->ay,cond_false->aC,of_decide_eq_true->b9,decide_eq_decide->ch,decide_true->aR,decide_false->bm,decide_eq_true->aJ,if_neg->bL,if_pos->bC,decide_eq_false->aM
namespace Go.FG
variable {R:Type}
abbrev uq(R:Type):=aX->aA->aD R
abbrev DV(R:Type):=aA->aX->aD R
abbrev MA(R:Type):=au->aY->aD R
abbrev Mz(R:Type):=aX->aY->aD R
abbrev yH(R:Type):=aX->aA->aA->aD R
abbrev p_(R:Type):=aA->aA->aA->aD R
abbrev Ak(R:Type):=aA->au->aA->aD R
abbrev Al(R:Type):=aA->au->aX->aD R
abbrev Oz(R:Type):=aY->DV R
abbrev oC(R:Type):=au->DV R
abbrev vl(R:Type):=aX->DV R
abbrev OA(R:Type):=aA->aA->aY->aD R
abbrev Kw(R:Type):=au->aA->aY->aD R
abbrev CT(R:Type):=aA->aX->aX->aD R
abbrev kU(R:Type):=aA->aA->DV R
abbrev wO(R:Type):=aX->aX->uq R
abbrev DW(R:Type):=aA->yH R
abbrev aaw(R:Type):=au->yH R
abbrev aav(R:Type):=aY->yH R
abbrev IA(R:Type):=aX->au->aY->aA->aD R
abbrev Ix(R:Type):=aY->aA->uq R
abbrev wN(R:Type):=aA->au->aA->aA->aD R
abbrev wP(R:Type):=aX->oC R
abbrev DX(R:Type):=aA->au->Mz R
abbrev ny(R:Type):=au->aA->DV R
abbrev rY(R:Type):=au->CT R
abbrev qF(R:Type):=aX->aA->DV R
abbrev ur(R:Type):=aX->CT R
abbrev Iy(R:Type):=aA->CT R
abbrev zA(R:Type):=aA->qF R
abbrev T9(R:Type):=au->qF R
abbrev qD(R:Type):=aA->aX->p_ R
abbrev DS(R:Type):=aY->aA->aA->uq R
abbrev zE(R:Type):=au->aA->aA->MA R
abbrev nQ(R:Type):=aA->kU R
abbrev DY(R:Type):=au->kU R
abbrev DZ(R:Type):=au->aA->aA->uq R
abbrev Kv(R:Type):=aX->aX->aX->aA->au->aD R
abbrev DT(R:Type):=aY->aA->Al R
abbrev qE(R:Type):=aA->aX->au->au->aA->aD R
abbrev zC(R:Type):=aX->aY->oC R
abbrev kq(R:Type):=aX->aA->p_ R
abbrev zD(R:Type):=aX->DW R
abbrev iG(R:Type):=aX->au->p_ R
abbrev D0(R:Type):=au->DW R
abbrev DU(R:Type):=aY->qF R
abbrev oy(R:Type):=aA->aX->kU R
abbrev k_(R:Type):=aA->aX->au->oC R
abbrev Gl(R:Type):=aX->aY->rY R
abbrev oA(R:Type):=aX->nQ R
abbrev Ai(R:Type):=aY->aX->aA->aA->uq R
abbrev Am(R:Type):=au->nQ R
abbrev vk(R:Type):=aA->au->aA->Al R
abbrev wL(R:Type):=aY->aA->aX->aX->vl R
abbrev oc(R:Type):=aX->vk R
abbrev wM(R:Type):=aY->aX->aA->aA->Al R
abbrev wQ(R:Type):=au->aA->aA->aA->aY->aA->aA->aD R
abbrev uv(R:Type):=au->aA->aA->aA->aY->p_ R
abbrev um(R:Type):=aY->aA->aA->aX->aX->vl R
abbrev uo(R:Type):=aG->aA->aA->nQ R
abbrev Iz(R:Type):=aA->au->aA->aA->aA->Kw R
abbrev eJ(R:Type):=aA->aX->aX->aX->aX->aA->aX->uq R
abbrev kA(R:Type):=aX->aA->aA->au->aA->aA->aA->oC R
abbrev vj(R:Type):=aA->aX->aX->aX->aX->aA->aX->yH R
abbrev km(R:Type):=aA->aX->aX->aX->aX->aA->aX->aX->aA->aY->aD R
abbrev qC(R:Type):=aY->aX->aX->aA->aA->aX->aA->aA->uq R
abbrev gP(R:Type):=aY->aA->eJ R
abbrev pH(R:Type):=aX->aA->au->aA->aA->aA->au->aA->p_ R
abbrev iC(R:Type):=aA->aA->aA->aA->aA->aA->aX->aX->aX->aX->aX->aX->aD R
abbrev oz(R:Type):=aA->aX->aX->aX->aX->aA->aX->aX->aA->aX->aX->aX->aD R
abbrev Aj(R:Type):=aA->aX->aX->aX->aX->aA->aX->zD R
abbrev ox(R:Type):=aY->aA->aA->aA->aA->aX->aX->aX->aX->aX->aX->aX->aD R
abbrev ru(R:Type):=aA->oz R
abbrev eA(R:Type):=aY->aX->aA->aA->eJ R
abbrev jG(R:Type):=aA->iC R
abbrev nv(R:Type):=aY->aA->aA->aA->aA->aA->aX->aX->aX->aX->aX->aX->aX->aD R
abbrev mf(R:Type):=aA->aX->jG R
abbrev g9(R:Type):=aA->aA->aA->aA->aX->aX->aX->aX->aX->aX->aX->aX->aX->aX->aX->aD R
abbrev lI(R:Type):=au->aY->aA->aA->aX->aX->aX->aX->aA->aX->aX->aA->au->aA->aA->au->aD R
abbrev ig(R:Type):=aA->aA->au->aA->aX->aX->aA->aA->aX->aX->aX->aX->aX->aX->aX->aX->aX->aD R
abbrev kT(R:Type):=aA->aY->aA->aA->aX->aX->aX->aX->aA->aX->aX->aA->au->au->p_ R
abbrev je(R:Type):=aA->aA->aA->aA->aA->au->aA->aA->aA->au->aA->aX->aX->aX->aX->aX->aX->aD R
abbrev jM(R:Type):=aA->aX->aA->aA->aA->aA->aA->aA->aA->aA->aX->aX->aX->aX->aX->aX->aX->aX->aX->aD R
abbrev jL(R:Type):=aA->aY->aA->aA->aX->aX->aX->aX->aA->aX->aX->aA->aA->au->aA->aA->Ak R
abbrev gv(R:Type):=aA->aA->aA->aX->aX->aX->aX->aA->aX->aX->jG R
abbrev im(R:Type):=aA->au->gv R
abbrev gF(R:Type):=aA->aA->aA->aA->aX->aA->aA->aX->aX->aX->aX->aX->aX->aX->aX->aX->aA->aA->aA->aA->aA->au->aA->aA->aA->oC R
abbrev f_(R:Type):=au->aY->aA->aA->aX->aX->aX->aX->aA->aX->aX->aA->aA->aA->je R
abbrev fj(R:Type):=aY->aY->aY->aA->aY->aY->aA->aA->aA->aA->aA->aA->aA->aA->aA->aA->aX->aX->aX->aX->aX->aX->aX->aX->aX->aX->aX->aX->aX->aX->aX->aX->aX->aX->aD R

namespace U15
def b(kr:aY->aD R)(a:aX):aD R:=kr (decide ((a.length:aA)>1048576))
def v(a0:aX):aY:=(decide ((a0.length:aA)>1048576))
theorem fI(kr:aY->aD R)(a0:aX):b kr a0=kr (v a0):=by first|rfl|(unfold b v;simp only[c8];(repeat' split)<;>rfl)
end U15

namespace IU
def r3(N:aG)(g k0:yH R)(a:aX)(d e:aA):aD R:=bif decide (e<(a.length:aA))then bif decide (e<4000)then bif decide (0<=e)&&decide (e<(a.length:aA))then g a (bM (↑(dO (iZ (b_ 64 (bM (bM (bM (d*131)+bM (bY (aw a e.toNat 0)))+7))) (b_ 64 1073741823))):aA)) (bM (e+1))else ao else k0 a d e else k0 a d e
def l3(N:aG)(k0:yH R):aG->yH R
 |0=>λ_ _ _=>ao
 |n+1=>r3 N (l3 N k0 n) k0
def b(N:aG)(kr:yH R)(a:aX):aD R:=l3 N (λd e _=>kr d 0 e) N a (bM (34901+(a.length:aA))) 0
def vo:=b Lib.c7 λr0 r1 r2=>aj (r0,r1,r2)
def c:=λa=>(vo a).isSome
def v:=λa=>(vo a).getD ([],0,0)
theorem out{x}:∀a,vo a=aj x->c a=ak/\v a=x:=λ_=>Lib.dy
end IU

namespace EE
def r3(N:aG)(g:p_ R)(g1:kU R)(k0:p_ R)(k1:kU R)(a d e:aA):aD R:=bif decide (a<3)then g1 (bM (a+1)) d e ([]++aE (aT [Ck.l 3] 1) 0 [CV.l 3 (aT [Ck.i ar] (bc 16))])else k0 a d e
def z7(N:aG)(g:p_ R)(g1:kU R)(k0:p_ R)(k1:kU R)(a d e:aA)(f:aX):aD R:=bif decide (a<3)then bif cJ (f.length+(aE (aT [Ck.l 3] 1) 0 [CV.l 3 (aT [Ck.i ar] (bc 16))]).length) 24 then g1 (bM (a+1)) d e (f++aE (aT [Ck.l 3] 1) 0 [CV.l 3 (aT [Ck.i ar] (bc 16))])else ao else k1 a d e f
def tW(N:aG)(k0:p_ R)(k1:kU R):aG->kU R
 |0=>λ_ _ _ _=>ao
 |n+1=>z7 N (λx0 x1 x2=>ao) (tW N k0 k1 n) k0 k1
def l3(N:aG)(k0:p_ R)(k1:kU R):aG->p_ R
 |0=>λ_ _ _=>ao
 |n+1=>r3 N (l3 N k0 k1 n) (tW N k0 k1 n) k0 k1
def b(N:aG)(kr:uq R):aD R:=l3 N (λ_ _ a=>kr [] a) (λ_ _ a d=>kr d a) N 0 0 0
def vo:=b Lib.c7 λr0 r1=>aj (r0,r1)
def c:=vo.isSome
def v:=vo.getD ([],0)
end EE

namespace Um
def b(kr:wO R):aD R:=kr [] [] ([]++aE (aT [Ck.l 3] 1) 0 [CV.l 3 (aT [Ck.i ar] (bc 16))]++aE (aT [Ck.l 3] 1) 0 [CV.l 3 (aT [Ck.i ar] (bc 16))]++aE (aT [Ck.l 3] 1) 0 [CV.l 3 (aT [Ck.i ar] (bc 16))]) 0
def v:aX×aX×aX×aA:=([],[],[]++aE (aT [Ck.l 3] 1) 0 [CV.l 3 (aT [Ck.i ar] (bc 16))]++aE (aT [Ck.l 3] 1) 0 [CV.l 3 (aT [Ck.i ar] (bc 16))]++aE (aT [Ck.l 3] 1) 0 [CV.l 3 (aT [Ck.i ar] (bc 16))],0)
theorem fI(kr:wO R):b kr=kr v.1 v.2.1 v.2.2.1 v.2.2.2:=by first|rfl|(unfold b v;simp only[c8];(repeat' split)<;>rfl)
end Um

namespace Ul
def b(kr:eJ R):aD R:=kr 1 [] [] [] ([]++aE (aT [Ck.l 3] 1) 0 [CV.l 3 (aT [Ck.i ar] (bc 16))]++aE (aT [Ck.l 3] 1) 0 [CV.l 3 (aT [Ck.i ar] (bc 16))]++aE (aT [Ck.l 3] 1) 0 [CV.l 3 (aT [Ck.i ar] (bc 16))]) 0 [] [] 0
def v:aA×aX×aX×aX×aX×aA×aX×aX×aA:=(1,[],[],[],[]++aE (aT [Ck.l 3] 1) 0 [CV.l 3 (aT [Ck.i ar] (bc 16))]++aE (aT [Ck.l 3] 1) 0 [CV.l 3 (aT [Ck.i ar] (bc 16))]++aE (aT [Ck.l 3] 1) 0 [CV.l 3 (aT [Ck.i ar] (bc 16))],0,[],[],0)
theorem fI(kr:eJ R):b kr=kr v.1 v.2.1 v.2.2.1 v.2.2.2.1 v.2.2.2.2.1 v.2.2.2.2.2.1 v.2.2.2.2.2.2.1 v.2.2.2.2.2.2.2.1 v.2.2.2.2.2.2.2.2:=by first|rfl|(unfold b v;simp only[c8];(repeat' split)<;>rfl)
end Ul

namespace bS
def b(kr:DW R)(a:aX)(d e:aA):aD R:=bif decide (d<(a.length:aA))then bif decide (0<=d)&&decide (d<(a.length:aA))then kr (bM (↑(dO (iZ (b_ 64 (bM (bM (↑(dO (iZ (b_ 64 (bM (↑(dO (lH (b_ 64 (kP (bM (bM (e*6364136223846793005)+1442695040888963407)) (gZ 2 (if bc 33<=64 then bc 33 else 64)))) (b_ 64 (kP (bM (bM (e*6364136223846793005)+1442695040888963407)) (gZ 2 (if bc 45<=64 then bc 45 else 64)))))):aA))) (b_ 64 255))):aA)+bM (bY (aw a d.toNat 0))))) (b_ 64 255))):aA)) a (bM (d+1)) (bM (bM (e*6364136223846793005)+1442695040888963407))else ao else kr (bM (↑(dO (iZ (b_ 64 (bM (↑(dO (lH (b_ 64 (kP (bM (bM (e*6364136223846793005)+1442695040888963407)) (gZ 2 (if bc 33<=64 then bc 33 else 64)))) (b_ 64 (kP (bM (bM (e*6364136223846793005)+1442695040888963407)) (gZ 2 (if bc 45<=64 then bc 45 else 64)))))):aA))) (b_ 64 255))):aA)) a d (bM (bM (e*6364136223846793005)+1442695040888963407))
def vo:=b λr0 r1 r2 r3=>aj (r0,r1,r2,r3)
def c:=λa d e=>(vo a d e).isSome
def v:=λa d e=>(vo a d e).getD (0,[],0,0)
theorem out{x}:∀a d e,vo a d e=aj x->c a d e=ak/\v a d e=x:=λ_ _ _=>Lib.dy
end bS

namespace gJ
def b(kr:DW R)(a:aX)(d e f:aA):aD R:=bif decide (f<=0)then kr 0 a d e else bif decide (f<=256)then bif bS.c a d e then bif !decide (f=0)then kr (cF (bS.v a d e).1 f) (bS.v a d e).2.1 (bS.v a d e).2.2.1 (bS.v a d e).2.2.2 else ao else ao else bif bS.c a d e then bif bS.c (bS.v a d e).2.1 (bS.v a d e).2.2.1 (bS.v a d e).2.2.2 then bif bS.c (bS.v (bS.v a d e).2.1 (bS.v a d e).2.2.1 (bS.v a d e).2.2.2).2.1 (bS.v (bS.v a d e).2.1 (bS.v a d e).2.2.1 (bS.v a d e).2.2.2).2.2.1 (bS.v (bS.v a d e).2.1 (bS.v a d e).2.2.1 (bS.v a d e).2.2.2).2.2.2 then bif bS.c (bS.v (bS.v (bS.v a d e).2.1 (bS.v a d e).2.2.1 (bS.v a d e).2.2.2).2.1 (bS.v (bS.v a d e).2.1 (bS.v a d e).2.2.1 (bS.v a d e).2.2.2).2.2.1 (bS.v (bS.v a d e).2.1 (bS.v a d e).2.2.1 (bS.v a d e).2.2.2).2.2.2).2.1 (bS.v (bS.v (bS.v a d e).2.1 (bS.v a d e).2.2.1 (bS.v a d e).2.2.2).2.1 (bS.v (bS.v a d e).2.1 (bS.v a d e).2.2.1 (bS.v a d e).2.2.2).2.2.1 (bS.v (bS.v a d e).2.1 (bS.v a d e).2.2.1 (bS.v a d e).2.2.2).2.2.2).2.2.1 (bS.v (bS.v (bS.v a d e).2.1 (bS.v a d e).2.2.1 (bS.v a d e).2.2.2).2.1 (bS.v (bS.v a d e).2.1 (bS.v a d e).2.2.1 (bS.v a d e).2.2.2).2.2.1 (bS.v (bS.v a d e).2.1 (bS.v a d e).2.2.1 (bS.v a d e).2.2.2).2.2.2).2.2.2 then bif !decide (f=0)then kr (cF (bM (bM (bM (bM ((bS.v a d e).1*16777216)+bM ((bS.v (bS.v a d e).2.1 (bS.v a d e).2.2.1 (bS.v a d e).2.2.2).1*65536))+bM ((bS.v (bS.v (bS.v a d e).2.1 (bS.v a d e).2.2.1 (bS.v a d e).2.2.2).2.1 (bS.v (bS.v a d e).2.1 (bS.v a d e).2.2.1 (bS.v a d e).2.2.2).2.2.1 (bS.v (bS.v a d e).2.1 (bS.v a d e).2.2.1 (bS.v a d e).2.2.2).2.2.2).1*256))+(bS.v (bS.v (bS.v (bS.v a d e).2.1 (bS.v a d e).2.2.1 (bS.v a d e).2.2.2).2.1 (bS.v (bS.v a d e).2.1 (bS.v a d e).2.2.1 (bS.v a d e).2.2.2).2.2.1 (bS.v (bS.v a d e).2.1 (bS.v a d e).2.2.1 (bS.v a d e).2.2.2).2.2.2).2.1 (bS.v (bS.v (bS.v a d e).2.1 (bS.v a d e).2.2.1 (bS.v a d e).2.2.2).2.1 (bS.v (bS.v a d e).2.1 (bS.v a d e).2.2.1 (bS.v a d e).2.2.2).2.2.1 (bS.v (bS.v a d e).2.1 (bS.v a d e).2.2.1 (bS.v a d e).2.2.2).2.2.2).2.2.1 (bS.v (bS.v (bS.v a d e).2.1 (bS.v a d e).2.2.1 (bS.v a d e).2.2.2).2.1 (bS.v (bS.v a d e).2.1 (bS.v a d e).2.2.1 (bS.v a d e).2.2.2).2.2.1 (bS.v (bS.v a d e).2.1 (bS.v a d e).2.2.1 (bS.v a d e).2.2.2).2.2.2).2.2.2).1)) f) (bS.v (bS.v (bS.v (bS.v a d e).2.1 (bS.v a d e).2.2.1 (bS.v a d e).2.2.2).2.1 (bS.v (bS.v a d e).2.1 (bS.v a d e).2.2.1 (bS.v a d e).2.2.2).2.2.1 (bS.v (bS.v a d e).2.1 (bS.v a d e).2.2.1 (bS.v a d e).2.2.2).2.2.2).2.1 (bS.v (bS.v (bS.v a d e).2.1 (bS.v a d e).2.2.1 (bS.v a d e).2.2.2).2.1 (bS.v (bS.v a d e).2.1 (bS.v a d e).2.2.1 (bS.v a d e).2.2.2).2.2.1 (bS.v (bS.v a d e).2.1 (bS.v a d e).2.2.1 (bS.v a d e).2.2.2).2.2.2).2.2.1 (bS.v (bS.v (bS.v a d e).2.1 (bS.v a d e).2.2.1 (bS.v a d e).2.2.2).2.1 (bS.v (bS.v a d e).2.1 (bS.v a d e).2.2.1 (bS.v a d e).2.2.2).2.2.1 (bS.v (bS.v a d e).2.1 (bS.v a d e).2.2.1 (bS.v a d e).2.2.2).2.2.2).2.2.2).2.1 (bS.v (bS.v (bS.v (bS.v a d e).2.1 (bS.v a d e).2.2.1 (bS.v a d e).2.2.2).2.1 (bS.v (bS.v a d e).2.1 (bS.v a d e).2.2.1 (bS.v a d e).2.2.2).2.2.1 (bS.v (bS.v a d e).2.1 (bS.v a d e).2.2.1 (bS.v a d e).2.2.2).2.2.2).2.1 (bS.v (bS.v (bS.v a d e).2.1 (bS.v a d e).2.2.1 (bS.v a d e).2.2.2).2.1 (bS.v (bS.v a d e).2.1 (bS.v a d e).2.2.1 (bS.v a d e).2.2.2).2.2.1 (bS.v (bS.v a d e).2.1 (bS.v a d e).2.2.1 (bS.v a d e).2.2.2).2.2.2).2.2.1 (bS.v (bS.v (bS.v a d e).2.1 (bS.v a d e).2.2.1 (bS.v a d e).2.2.2).2.1 (bS.v (bS.v a d e).2.1 (bS.v a d e).2.2.1 (bS.v a d e).2.2.2).2.2.1 (bS.v (bS.v a d e).2.1 (bS.v a d e).2.2.1 (bS.v a d e).2.2.2).2.2.2).2.2.2).2.2.1 (bS.v (bS.v (bS.v (bS.v a d e).2.1 (bS.v a d e).2.2.1 (bS.v a d e).2.2.2).2.1 (bS.v (bS.v a d e).2.1 (bS.v a d e).2.2.1 (bS.v a d e).2.2.2).2.2.1 (bS.v (bS.v a d e).2.1 (bS.v a d e).2.2.1 (bS.v a d e).2.2.2).2.2.2).2.1 (bS.v (bS.v (bS.v a d e).2.1 (bS.v a d e).2.2.1 (bS.v a d e).2.2.2).2.1 (bS.v (bS.v a d e).2.1 (bS.v a d e).2.2.1 (bS.v a d e).2.2.2).2.2.1 (bS.v (bS.v a d e).2.1 (bS.v a d e).2.2.1 (bS.v a d e).2.2.2).2.2.2).2.2.1 (bS.v (bS.v (bS.v a d e).2.1 (bS.v a d e).2.2.1 (bS.v a d e).2.2.2).2.1 (bS.v (bS.v a d e).2.1 (bS.v a d e).2.2.1 (bS.v a d e).2.2.2).2.2.1 (bS.v (bS.v a d e).2.1 (bS.v a d e).2.2.1 (bS.v a d e).2.2.2).2.2.2).2.2.2).2.2.2 else ao else ao else ao else ao else ao
def vo:=b λr0 r1 r2 r3=>aj (r0,r1,r2,r3)
def c:=λa d e f=>(vo a d e f).isSome
def v:=λa d e f=>(vo a d e f).getD (0,[],0,0)
theorem out{x}:∀a d e f,vo a d e f=aj x->c a d e f=ak/\v a d e f=x:=λ_ _ _ _=>Lib.dy
end gJ

namespace yL
def b(kr:zA R)(a:aX)(d e:aA)(f:aX):aD R:=bif gJ.c a d e (f.length:aA)then bif decide (0<=(gJ.v a d e (f.length:aA)).1)&&decide ((gJ.v a d e (f.length:aA)).1<(f.length:aA))then kr (bY (aw f (gJ.v a d e (f.length:aA)).1.toNat 0)) (gJ.v a d e (f.length:aA)).2.1 (gJ.v a d e (f.length:aA)).2.2.1 (gJ.v a d e (f.length:aA)).2.2.2 f else ao else ao
def vo:=b λr0 r1 r2 r3 r4=>aj (r0,r1,r2,r3,r4)
def c:=λa d e f=>(vo a d e f).isSome
def v:=λa d e f=>(vo a d e f).getD (0,[],0,0,[])
theorem out{x}:∀a d e f,vo a d e f=aj x->c a d e f=ak/\v a d e f=x:=λ_ _ _ _=>Lib.dy
end yL

namespace o9
def b(kr:T9 R)(a:aX)(d e:aA)(f:aX):aD R:=bif gJ.c a d e (f.length:aA)then bif decide (0<=(gJ.v a d e (f.length:aA)).1)&&decide ((gJ.v a d e (f.length:aA)).1<(f.length:aA))then kr (bQ (aw f (gJ.v a d e (f.length:aA)).1.toNat 0)) (gJ.v a d e (f.length:aA)).2.1 (gJ.v a d e (f.length:aA)).2.2.1 (gJ.v a d e (f.length:aA)).2.2.2 f else ao else ao
def vo:=b λr0 r1 r2 r3 r4=>aj (r0,r1,r2,r3,r4)
def c:=λa d e f=>(vo a d e f).isSome
def v:=λa d e f=>(vo a d e f).getD (⟨#[]⟩,[],0,0,[])
theorem out{x}:∀a d e f,vo a d e f=aj x->c a d e f=ak/\v a d e f=x:=λ_ _ _ _=>Lib.dy
end o9

namespace tM
def b(kr:aaw R)(a:aX)(d e:aA):aD R:=bif o9.c a d e (aE (aE (aE (aE (aE (aE (aE (aE (aT [.s] 8) 0 [.s {data:= #[ax 47,ax 97]}]) 1 [.s {data:= #[ax 47,ax 98]}]) 2 [.s {data:= #[ax 47,ax 99]}]) 3 [.s {data:= #[ax 47,ax 100]}]) 4 [.s {data:= #[ax 47,ax 101]}]) 5 [.s {data:= #[ax 47,ax 102]}]) 6 [.s {data:= #[ax 47,ax 103]}]) 7 [.s {data:= #[ax 47,ax 104]}])then kr (o9.v a d e (aE (aE (aE (aE (aE (aE (aE (aE (aT [.s] 8) 0 [.s {data:= #[ax 47,ax 97]}]) 1 [.s {data:= #[ax 47,ax 98]}]) 2 [.s {data:= #[ax 47,ax 99]}]) 3 [.s {data:= #[ax 47,ax 100]}]) 4 [.s {data:= #[ax 47,ax 101]}]) 5 [.s {data:= #[ax 47,ax 102]}]) 6 [.s {data:= #[ax 47,ax 103]}]) 7 [.s {data:= #[ax 47,ax 104]}])).1 (o9.v a d e (aE (aE (aE (aE (aE (aE (aE (aE (aT [.s] 8) 0 [.s {data:= #[ax 47,ax 97]}]) 1 [.s {data:= #[ax 47,ax 98]}]) 2 [.s {data:= #[ax 47,ax 99]}]) 3 [.s {data:= #[ax 47,ax 100]}]) 4 [.s {data:= #[ax 47,ax 101]}]) 5 [.s {data:= #[ax 47,ax 102]}]) 6 [.s {data:= #[ax 47,ax 103]}]) 7 [.s {data:= #[ax 47,ax 104]}])).2.1 (o9.v a d e (aE (aE (aE (aE (aE (aE (aE (aE (aT [.s] 8) 0 [.s {data:= #[ax 47,ax 97]}]) 1 [.s {data:= #[ax 47,ax 98]}]) 2 [.s {data:= #[ax 47,ax 99]}]) 3 [.s {data:= #[ax 47,ax 100]}]) 4 [.s {data:= #[ax 47,ax 101]}]) 5 [.s {data:= #[ax 47,ax 102]}]) 6 [.s {data:= #[ax 47,ax 103]}]) 7 [.s {data:= #[ax 47,ax 104]}])).2.2.1 (o9.v a d e (aE (aE (aE (aE (aE (aE (aE (aE (aT [.s] 8) 0 [.s {data:= #[ax 47,ax 97]}]) 1 [.s {data:= #[ax 47,ax 98]}]) 2 [.s {data:= #[ax 47,ax 99]}]) 3 [.s {data:= #[ax 47,ax 100]}]) 4 [.s {data:= #[ax 47,ax 101]}]) 5 [.s {data:= #[ax 47,ax 102]}]) 6 [.s {data:= #[ax 47,ax 103]}]) 7 [.s {data:= #[ax 47,ax 104]}])).2.2.2.1 else ao
def vo:=b λr0 r1 r2 r3=>aj (r0,r1,r2,r3)
def c:=λa d e=>(vo a d e).isSome
def v:=λa d e=>(vo a d e).getD (⟨#[]⟩,[],0,0)
theorem out{x}:∀a d e,vo a d e=aj x->c a d e=ak/\v a d e=x:=λ_ _ _=>Lib.dy
end tM

namespace tN
def b(kr:aav R)(a:aX)(d e f:aA):aD R:=bif gJ.c a d e f then kr (decide ((gJ.v a d e f).1=0)) (gJ.v a d e f).2.1 (gJ.v a d e f).2.2.1 (gJ.v a d e f).2.2.2 else ao
def vo:=b λr0 r1 r2 r3=>aj (r0,r1,r2,r3)
def c:=λa d e f=>(vo a d e f).isSome
def v:=λa d e f=>(vo a d e f).getD (aq,[],0,0)
theorem out{x}:∀a d e f,vo a d e f=aj x->c a d e f=ak/\v a d e f=x:=λ_ _ _ _=>Lib.dy
end tN

namespace uJ
def r4(N:aG)(g k0:gF R)(a d e f:aA)(h:aX)(i j:aA)(l m o p q r s t u:aX)(w y z α xa:aA)(xb:au)(xc xd xe:aA)(xf:au)(xg:aA)(xh:aX):aD R:=bif decide (f<(q.length:aA))then bif decide (0<=f)&&decide (f<(q.length:aA))then bif decide (bY (aw q f.toNat 2)=1)then bif cJ (xh.length+(aE (aT [Ck.i ar] 1) 0 [.i .i64 f]).length) 8 then g a d e (bM (f+1)) h i j l m o p q r s t u w y z α xa xb xc xd xe xf xg (xh++aE (aT [Ck.i ar] 1) 0 [.i .i64 f])else ao else g a d e (bM (f+1)) h i j l m o p q r s t u w y z α xa xb xc xd xe xf xg xh else ao else k0 a d e f h i j l m o p q r s t u w y z α xa xb xc xd xe xf xg xh
def l4(N:aG)(k0:gF R):aG->gF R
 |0=>λ_ _ _ _ _ _ _ _ _ _ _ _ _ _ _ _ _ _ _ _ _ _ _ _ _ _ _ _=>ao
 |n+1=>r4 N (l4 N k0 n) k0
abbrev h0{R:Type}(kr:ig R)(w:aX)(y z:aA)(α xa xb xc xd xe xf xg xh:aX)(xi:aA)(xk:au)(xl:aA)(xm:aX):aD R:=bif gJ.c w y z 3 then Lib.lt (gJ.v w y z 3) λxn=>bif decide ((xm.length:aA)>0)then bif tN.c xn.2.1 xn.2.2.1 xn.2.2.2 6 then Lib.lt (tN.v xn.2.1 xn.2.2.1 xn.2.2.2 6) λxo=>bif !xo.1 then bif gJ.c xo.2.1 xo.2.2.1 xo.2.2.2 (xm.length:aA)then Lib.lt (gJ.v xo.2.1 xo.2.2.1 xo.2.2.2 (xm.length:aA)) λxp=>bif decide (0<=xp.1)&&decide (xp.1<(xm.length:aA))then bif decide (xi=2)then bif o9.c xp.2.1 xp.2.2.1 xp.2.2.2 (aE (aE (aE (aE (aT [.s] 4) 0 [.s {data:= #[ax 120]}]) 1 [.s {data:= #[ax 104,ax 101,ax 108,ax 108,ax 111]}]) 2 [.s {data:= #[ax 109,ax 111,ax 114,ax 101,ax 32]}]) 3 [.s {data:= #[ax 48,ax 49,ax 50,ax 51,ax 52,ax 53,ax 54,ax 55,ax 56,ax 57]}])then Lib.lt (o9.v xp.2.1 xp.2.2.1 xp.2.2.2 (aE (aE (aE (aE (aT [.s] 4) 0 [.s {data:= #[ax 120]}]) 1 [.s {data:= #[ax 104,ax 101,ax 108,ax 108,ax 111]}]) 2 [.s {data:= #[ax 109,ax 111,ax 114,ax 101,ax 32]}]) 3 [.s {data:= #[ax 48,ax 49,ax 50,ax 51,ax 52,ax 53,ax 54,ax 55,ax 56,ax 57]}])) λxq=>bif decide (xi=3)then bif yL.c xq.2.1 xq.2.2.1 xq.2.2.2.1 (aE (aE (aE (aE (aE (aT [Ck.i ar] 5) 0 [.i .i64 0]) 1 [.i .i64 3]) 2 [.i .i64 20]) 3 [.i .i64 60]) 4 [.i .i64 60])then Lib.lt (yL.v xq.2.1 xq.2.2.1 xq.2.2.2.1 (aE (aE (aE (aE (aE (aT [Ck.i ar] 5) 0 [.i .i64 0]) 1 [.i .i64 3]) 2 [.i .i64 20]) 3 [.i .i64 60]) 4 [.i .i64 60])) λxr=>kr xi (bY (aw xm xp.1.toNat 0)) xq.1 xr.1 [] xr.2.1 xr.2.2.1 xr.2.2.2.1 α xa xb xc xd xe xf xg xh else ao else kr xi (bY (aw xm xp.1.toNat 0)) xq.1 xl [] xq.2.1 xq.2.2.1 xq.2.2.2.1 α xa xb xc xd xe xf xg xh else ao else bif decide (xi=3)then bif yL.c xp.2.1 xp.2.2.1 xp.2.2.2 (aE (aE (aE (aE (aE (aT [Ck.i ar] 5) 0 [.i .i64 0]) 1 [.i .i64 3]) 2 [.i .i64 20]) 3 [.i .i64 60]) 4 [.i .i64 60])then Lib.lt (yL.v xp.2.1 xp.2.2.1 xp.2.2.2 (aE (aE (aE (aE (aE (aT [Ck.i ar] 5) 0 [.i .i64 0]) 1 [.i .i64 3]) 2 [.i .i64 20]) 3 [.i .i64 60]) 4 [.i .i64 60])) λxq=>kr xi (bY (aw xm xp.1.toNat 0)) xk xq.1 [] xq.2.1 xq.2.2.1 xq.2.2.2.1 α xa xb xc xd xe xf xg xh else ao else kr xi (bY (aw xm xp.1.toNat 0)) xk xl [] xp.2.1 xp.2.2.1 xp.2.2.2 α xa xb xc xd xe xf xg xh else ao else ao else bif decide (xi=2)then bif o9.c xo.2.1 xo.2.2.1 xo.2.2.2 (aE (aE (aE (aE (aT [.s] 4) 0 [.s {data:= #[ax 120]}]) 1 [.s {data:= #[ax 104,ax 101,ax 108,ax 108,ax 111]}]) 2 [.s {data:= #[ax 109,ax 111,ax 114,ax 101,ax 32]}]) 3 [.s {data:= #[ax 48,ax 49,ax 50,ax 51,ax 52,ax 53,ax 54,ax 55,ax 56,ax 57]}])then Lib.lt (o9.v xo.2.1 xo.2.2.1 xo.2.2.2 (aE (aE (aE (aE (aT [.s] 4) 0 [.s {data:= #[ax 120]}]) 1 [.s {data:= #[ax 104,ax 101,ax 108,ax 108,ax 111]}]) 2 [.s {data:= #[ax 109,ax 111,ax 114,ax 101,ax 32]}]) 3 [.s {data:= #[ax 48,ax 49,ax 50,ax 51,ax 52,ax 53,ax 54,ax 55,ax 56,ax 57]}])) λxp=>bif decide (xi=3)then bif yL.c xp.2.1 xp.2.2.1 xp.2.2.2.1 (aE (aE (aE (aE (aE (aT [Ck.i ar] 5) 0 [.i .i64 0]) 1 [.i .i64 3]) 2 [.i .i64 20]) 3 [.i .i64 60]) 4 [.i .i64 60])then Lib.lt (yL.v xp.2.1 xp.2.2.1 xp.2.2.2.1 (aE (aE (aE (aE (aE (aT [Ck.i ar] 5) 0 [.i .i64 0]) 1 [.i .i64 3]) 2 [.i .i64 20]) 3 [.i .i64 60]) 4 [.i .i64 60])) λxq=>kr xi xn.1 xp.1 xq.1 [] xq.2.1 xq.2.2.1 xq.2.2.2.1 α xa xb xc xd xe xf xg xh else ao else kr xi xn.1 xp.1 xl [] xp.2.1 xp.2.2.1 xp.2.2.2.1 α xa xb xc xd xe xf xg xh else ao else bif decide (xi=3)then bif yL.c xo.2.1 xo.2.2.1 xo.2.2.2 (aE (aE (aE (aE (aE (aT [Ck.i ar] 5) 0 [.i .i64 0]) 1 [.i .i64 3]) 2 [.i .i64 20]) 3 [.i .i64 60]) 4 [.i .i64 60])then Lib.lt (yL.v xo.2.1 xo.2.2.1 xo.2.2.2 (aE (aE (aE (aE (aE (aT [Ck.i ar] 5) 0 [.i .i64 0]) 1 [.i .i64 3]) 2 [.i .i64 20]) 3 [.i .i64 60]) 4 [.i .i64 60])) λxp=>kr xi xn.1 xk xp.1 [] xp.2.1 xp.2.2.1 xp.2.2.2.1 α xa xb xc xd xe xf xg xh else ao else kr xi xn.1 xk xl [] xo.2.1 xo.2.2.1 xo.2.2.2 α xa xb xc xd xe xf xg xh else ao else bif decide (xi=2)then bif o9.c xn.2.1 xn.2.2.1 xn.2.2.2 (aE (aE (aE (aE (aT [.s] 4) 0 [.s {data:= #[ax 120]}]) 1 [.s {data:= #[ax 104,ax 101,ax 108,ax 108,ax 111]}]) 2 [.s {data:= #[ax 109,ax 111,ax 114,ax 101,ax 32]}]) 3 [.s {data:= #[ax 48,ax 49,ax 50,ax 51,ax 52,ax 53,ax 54,ax 55,ax 56,ax 57]}])then Lib.lt (o9.v xn.2.1 xn.2.2.1 xn.2.2.2 (aE (aE (aE (aE (aT [.s] 4) 0 [.s {data:= #[ax 120]}]) 1 [.s {data:= #[ax 104,ax 101,ax 108,ax 108,ax 111]}]) 2 [.s {data:= #[ax 109,ax 111,ax 114,ax 101,ax 32]}]) 3 [.s {data:= #[ax 48,ax 49,ax 50,ax 51,ax 52,ax 53,ax 54,ax 55,ax 56,ax 57]}])) λxo=>bif decide (xi=3)then bif yL.c xo.2.1 xo.2.2.1 xo.2.2.2.1 (aE (aE (aE (aE (aE (aT [Ck.i ar] 5) 0 [.i .i64 0]) 1 [.i .i64 3]) 2 [.i .i64 20]) 3 [.i .i64 60]) 4 [.i .i64 60])then Lib.lt (yL.v xo.2.1 xo.2.2.1 xo.2.2.2.1 (aE (aE (aE (aE (aE (aT [Ck.i ar] 5) 0 [.i .i64 0]) 1 [.i .i64 3]) 2 [.i .i64 20]) 3 [.i .i64 60]) 4 [.i .i64 60])) λxp=>kr xi xn.1 xo.1 xp.1 [] xp.2.1 xp.2.2.1 xp.2.2.2.1 α xa xb xc xd xe xf xg xh else ao else kr xi xn.1 xo.1 xl [] xo.2.1 xo.2.2.1 xo.2.2.2.1 α xa xb xc xd xe xf xg xh else ao else bif decide (xi=3)then bif yL.c xn.2.1 xn.2.2.1 xn.2.2.2 (aE (aE (aE (aE (aE (aT [Ck.i ar] 5) 0 [.i .i64 0]) 1 [.i .i64 3]) 2 [.i .i64 20]) 3 [.i .i64 60]) 4 [.i .i64 60])then Lib.lt (yL.v xn.2.1 xn.2.2.1 xn.2.2.2 (aE (aE (aE (aE (aE (aT [Ck.i ar] 5) 0 [.i .i64 0]) 1 [.i .i64 3]) 2 [.i .i64 20]) 3 [.i .i64 60]) 4 [.i .i64 60])) λxo=>kr xi xn.1 xk xo.1 [] xo.2.1 xo.2.2.1 xo.2.2.2.1 α xa xb xc xd xe xf xg xh else ao else kr xi xn.1 xk xl [] xn.2.1 xn.2.2.1 xn.2.2.2 α xa xb xc xd xe xf xg xh else ao
abbrev h1{R:Type}(kr:ig R)(w:aX)(y z:aA)(α xa xb xc xd xe xf xg xh:aX)(xi xj:aA)(xk:au)(xl:aA):aD R:=bif decide (xi=5)then bif yL.c w y z (aE (aE (aE (aE (aT [Ck.i ar] 4) 0 [.i .i64 1]) 1 [.i .i64 2]) 2 [.i .i64 5]) 3 [.i .i64 30])then Lib.lt (yL.v w y z (aE (aE (aE (aE (aT [Ck.i ar] 4) 0 [.i .i64 1]) 1 [.i .i64 2]) 2 [.i .i64 5]) 3 [.i .i64 30])) λxn=>kr xi xj xk xn.1 [] xn.2.1 xn.2.2.1 xn.2.2.2.1 α xa xb xc xd xe xf xg xh else ao else bif decide (xi=6)then bif gJ.c w y z 9 then Lib.lt (gJ.v w y z 9) λxn=>bif decide ((xe.length:aA)>0)then bif tN.c xn.2.1 xn.2.2.1 xn.2.2.2 4 then Lib.lt (tN.v xn.2.1 xn.2.2.1 xn.2.2.2 4) λxo=>bif !xo.1 then bif gJ.c xo.2.1 xo.2.2.1 xo.2.2.2 (xe.length:aA)then Lib.lt (gJ.v xo.2.1 xo.2.2.1 xo.2.2.2 (xe.length:aA)) λxp=>bif decide (0<=xp.1)&&decide (xp.1<(xe.length:aA))then kr xi (bY (aw xe xp.1.toNat 0)) xk xl [] xp.2.1 xp.2.2.1 xp.2.2.2 α xa xb xc xd xe xf xg xh else ao else ao else kr xi (bM (1+xn.1)) xk xl [] xo.2.1 xo.2.2.1 xo.2.2.2 α xa xb xc xd xe xf xg xh else ao else kr xi (bM (1+xn.1)) xk xl [] xn.2.1 xn.2.2.1 xn.2.2.2 α xa xb xc xd xe xf xg xh else ao else kr xi xj xk xl [] w y z α xa xb xc xd xe xf xg xh
abbrev h2{R:Type}(kr:ig R)(w:aX)(y z:aA)(α xa xb xc xd xe xf xg xh:aX)(xk:au)(xl:aA):aD R:=bif gJ.c w y z 9 then Lib.lt (gJ.v w y z 9) λxn=>bif decide ((xe.length:aA)>0)then bif tN.c xn.2.1 xn.2.2.1 xn.2.2.2 4 then Lib.lt (tN.v xn.2.1 xn.2.2.1 xn.2.2.2 4) λxo=>bif !xo.1 then bif gJ.c xo.2.1 xo.2.2.1 xo.2.2.2 (xe.length:aA)then Lib.lt (gJ.v xo.2.1 xo.2.2.1 xo.2.2.2 (xe.length:aA)) λxp=>bif decide (0<=xp.1)&&decide (xp.1<(xe.length:aA))then kr 6 (bY (aw xe xp.1.toNat 0)) xk xl [] xp.2.1 xp.2.2.1 xp.2.2.2 α xa xb xc xd xe xf xg xh else ao else ao else kr 6 (bM (1+xn.1)) xk xl [] xo.2.1 xo.2.2.1 xo.2.2.2 α xa xb xc xd xe xf xg xh else ao else kr 6 (bM (1+xn.1)) xk xl [] xn.2.1 xn.2.2.1 xn.2.2.2 α xa xb xc xd xe xf xg xh else ao
abbrev h3{R:Type}(kr:ig R)(w:aX)(y z:aA)(α xa xb xc xd xe xf xg xh:aX)(xi xl:aA):aD R:=bif gJ.c w y z 9 then Lib.lt (gJ.v w y z 9) λxn=>bif tM.c xn.2.1 xn.2.2.1 xn.2.2.2 then Lib.lt (tM.v xn.2.1 xn.2.2.1 xn.2.2.2) λxo=>kr xi (bM (1+xn.1)) xo.1 xl [] xo.2.1 xo.2.2.1 xo.2.2.2 α xa xb xc xd xe xf xg xh else ao else ao
def b(N:aG)(kr:ig R)(a:aX)(d e f:aA)(h i j l:aX)(m:aA)(o p:aX)(q:aA)(r s t:aX):aD R:=bif yL.c a d e (aE (aE (aE (aE (aE (aE (aE (aE (aE (aE (aE (aE (aE (aE (aT [Ck.i ar] 14) 0 [.i .i64 1]) 1 [.i .i64 1]) 2 [.i .i64 1]) 3 [.i .i64 1]) 4 [.i .i64 2]) 5 [.i .i64 2]) 6 [.i .i64 2]) 7 [.i .i64 3]) 8 [.i .i64 3]) 9 [.i .i64 3]) 10 [.i .i64 4]) 11 [.i .i64 5]) 12 [.i .i64 6]) 13 [.i .i64 6])then Lib.lt (yL.v a d e (aE (aE (aE (aE (aE (aE (aE (aE (aE (aE (aE (aE (aE (aE (aT [Ck.i ar] 14) 0 [.i .i64 1]) 1 [.i .i64 1]) 2 [.i .i64 1]) 3 [.i .i64 1]) 4 [.i .i64 2]) 5 [.i .i64 2]) 6 [.i .i64 2]) 7 [.i .i64 3]) 8 [.i .i64 3]) 9 [.i .i64 3]) 10 [.i .i64 4]) 11 [.i .i64 5]) 12 [.i .i64 6]) 13 [.i .i64 6])) λu=>l4 N (λ_ _ _ _ w y z α xa xb xc xd xe xf xg xh _ _ _ _ _ _ _ xi xj xk xl xm=>bif decide ((xm.length:aA)=0)then bif decide (xi=2)then bif decide ((xe.length:aA)≥6)then h2 kr w y z α xa xb xc xd xe xf xg xh xk xl else bif gJ.c w y z 9 then Lib.lt (gJ.v w y z 9) λxn=>bif tM.c xn.2.1 xn.2.2.1 xn.2.2.2 then Lib.lt (tM.v xn.2.1 xn.2.2.1 xn.2.2.2) λxo=>kr 1 (bM (1+xn.1)) xo.1 xl [] xo.2.1 xo.2.2.1 xo.2.2.2 α xa xb xc xd xe xf xg xh else ao else ao else bif decide (xi=3)then bif decide ((xe.length:aA)≥6)then h2 kr w y z α xa xb xc xd xe xf xg xh xk xl else bif gJ.c w y z 9 then Lib.lt (gJ.v w y z 9) λxn=>bif tM.c xn.2.1 xn.2.2.1 xn.2.2.2 then Lib.lt (tM.v xn.2.1 xn.2.2.1 xn.2.2.2) λxo=>kr 1 (bM (1+xn.1)) xo.1 xl [] xo.2.1 xo.2.2.1 xo.2.2.2 α xa xb xc xd xe xf xg xh else ao else ao else bif decide ((xe.length:aA)≥6)then bif decide (xi=1)then h2 kr w y z α xa xb xc xd xe xf xg xh xk xl else bif decide (xi=1)then h3 kr w y z α xa xb xc xd xe xf xg xh xi xl else bif decide (xi=2)then h0 kr w y z α xa xb xc xd xe xf xg xh xi xk xl xm else bif decide (xi=3)then h0 kr w y z α xa xb xc xd xe xf xg xh xi xk xl xm else bif decide (xi=4)then h0 kr w y z α xa xb xc xd xe xf xg xh xi xk xl xm else h1 kr w y z α xa xb xc xd xe xf xg xh xi xj xk xl else bif decide (xi=1)then h3 kr w y z α xa xb xc xd xe xf xg xh xi xl else bif decide (xi=2)then h0 kr w y z α xa xb xc xd xe xf xg xh xi xk xl xm else bif decide (xi=3)then h0 kr w y z α xa xb xc xd xe xf xg xh xi xk xl xm else bif decide (xi=4)then h0 kr w y z α xa xb xc xd xe xf xg xh xi xk xl xm else h1 kr w y z α xa xb xc xd xe xf xg xh xi xj xk xl else bif decide ((xe.length:aA)≥6)then bif decide (xi=1)then h2 kr w y z α xa xb xc xd xe xf xg xh xk xl else bif decide (xi=1)then h3 kr w y z α xa xb xc xd xe xf xg xh xi xl else bif decide (xi=2)then h0 kr w y z α xa xb xc xd xe xf xg xh xi xk xl xm else bif decide (xi=3)then h0 kr w y z α xa xb xc xd xe xf xg xh xi xk xl xm else bif decide (xi=4)then h0 kr w y z α xa xb xc xd xe xf xg xh xi xk xl xm else h1 kr w y z α xa xb xc xd xe xf xg xh xi xj xk xl else bif decide (xi=1)then h3 kr w y z α xa xb xc xd xe xf xg xh xi xl else bif decide (xi=2)then h0 kr w y z α xa xb xc xd xe xf xg xh xi xk xl xm else bif decide (xi=3)then h0 kr w y z α xa xb xc xd xe xf xg xh xi xk xl xm else bif decide (xi=4)then h0 kr w y z α xa xb xc xd xe xf xg xh xi xk xl xm else h1 kr w y z α xa xb xc xd xe xf xg xh xi xj xk xl) N f m q 0 u.2.1 u.2.2.1 u.2.2.2.1 h i j l o p r s t f m q 0 0 ⟨#[]⟩ 0 u.1 0 ⟨#[]⟩ 0 (aT [Ck.i ar] 0)else ao
def vo:=b Lib.c7 λr0 r1 r2 r3 r4 r5 r6 r7 r8 r9 R7 z5 r12 r13 r14 r15 r16=>aj (r0,r1,r2,r3,r4,r5,r6,r7,r8,r9,R7,z5,r12,r13,r14,r15,r16)
def c:=λa d e f h i j l m o p q r s t=>(vo a d e f h i j l m o p q r s t).isSome
def v:=λa d e f h i j l m o p q r s t=>(vo a d e f h i j l m o p q r s t).getD (0,0,⟨#[]⟩,0,[],[],0,0,[],[],[],[],[],[],[],[],[])
theorem out{x}:∀a d e f h i j l m o p q r s t,vo a d e f h i j l m o p q r s t=aj x->c a d e f h i j l m o p q r s t=ak/\v a d e f h i j l m o p q r s t=x:=λ_ _ _ _ _ _ _ _ _ _ _ _ _ _ _=>Lib.dy
end uJ

namespace nz
def r3(N:aG)(g:qD R)(g1:oy R)(k0:qD R)(k1:oy R)(a:aA)(d:aX)(e f h:aA):aD R:=bif decide (a<(d.length:aA))then bif decide (0<=a)&&decide (a<(d.length:aA))then bif cJ ((aT [Ck.i ar] 0).length+(ju (aw d a.toNat 0)).length) 8 then g1 (bM (a+1)) d e f h ([]++aE (aT [Ck.l 3] 1) 0 [CV.l 3 (aT [Ck.i ar] 0++ju (aw d a.toNat 0))])else ao else ao else k0 a d e f h
def z7(N:aG)(g:qD R)(g1:oy R)(k0:qD R)(k1:oy R)(a:aA)(d:aX)(e f h:aA)(i:aX):aD R:=bif decide (a<(d.length:aA))then bif decide (0<=a)&&decide (a<(d.length:aA))then bif cJ ((aT [Ck.i ar] 0).length+(ju (aw d a.toNat 0)).length) 8 then bif cJ (i.length+(aE (aT [Ck.l 3] 1) 0 [CV.l 3 (aT [Ck.i ar] 0++ju (aw d a.toNat 0))]).length) 24 then g1 (bM (a+1)) d e f h (i++aE (aT [Ck.l 3] 1) 0 [CV.l 3 (aT [Ck.i ar] 0++ju (aw d a.toNat 0))])else ao else ao else ao else k1 a d e f h i
def tW(N:aG)(k0:qD R)(k1:oy R):aG->oy R
 |0=>λ_ _ _ _ _ _=>ao
 |n+1=>z7 N (λx0 x1 x2 x3 x4=>ao) (tW N k0 k1 n) k0 k1
def l3(N:aG)(k0:qD R)(k1:oy R):aG->qD R
 |0=>λ_ _ _ _ _=>ao
 |n+1=>r3 N (l3 N k0 k1 n) (tW N k0 k1 n) k0 k1
def b(N:aG)(kr:uq R)(a:aX)(d:aA):aD R:=l3 N (λ_ _ _ _ e=>kr [] e) (λ_ _ _ _ e f=>kr f e) N 0 a d 0 d
def vo:=b Lib.c7 λr0 r1=>aj (r0,r1)
def c:=λa d=>(vo a d).isSome
def v:=λa d=>(vo a d).getD ([],0)
theorem out{x}:∀a d,vo a d=aj x->c a d=ak/\v a d=x:=λ_ _=>Lib.dy
end nz

namespace fN
def b(kr:wO R)(a d e:aX)(f:aA):aD R:=bif cJ ((aT [.s] 0).length+a.length) 16 then bif cJ ((aT [.s] 0).length+d.length) 16 then bif nz.c e f then kr (aT [.s] 0++a) (aT [.s] 0++d) (nz.v e f).1 (nz.v e f).2 else ao else ao else ao
def vo:=b λr0 r1 r2 r3=>aj (r0,r1,r2,r3)
def c:=λa d e f=>(vo a d e f).isSome
def v:=λa d e f=>(vo a d e f).getD ([],[],[],0)
theorem out{x}:∀a d e f,vo a d e f=aj x->c a d e f=ak/\v a d e f=x:=λ_ _ _ _=>Lib.dy
end fN

namespace kZ
def b(kr:eJ R)(a:aA)(d e f h:aX)(i:aA)(j l:aX)(m:aA):aD R:=bif cJ ((aT [Ck.s,Ck.i ar,Ck.i ar,Ck.s] 0).length+d.length) 48 then bif fN.c e f h i then bif cJ ((aT [Ck.s,Ck.s,Ck.i ar,Ck.i ar,Ck.i ar] 0).length+j.length) 56 then bif cJ ((aT [Ck.i ar,Ck.s,Ck.i ar,Ck.i ar,Ck.i ar,Ck.s,Ck.i ar] 0).length+l.length) 72 then kr a (aT [Ck.s,Ck.i ar,Ck.i ar,Ck.s] 0++d) (fN.v e f h i).1 (fN.v e f h i).2.1 (fN.v e f h i).2.2.1 (fN.v e f h i).2.2.2 (aT [Ck.s,Ck.s,Ck.i ar,Ck.i ar,Ck.i ar] 0++j) (aT [Ck.i ar,Ck.s,Ck.i ar,Ck.i ar,Ck.i ar,Ck.s,Ck.i ar] 0++l) m else ao else ao else ao else ao
def vo:=b λr0 r1 r2 r3 r4 r5 r6 r7 r8=>aj (r0,r1,r2,r3,r4,r5,r6,r7,r8)
def c:=λa d e f h i j l m=>(vo a d e f h i j l m).isSome
def v:=λa d e f h i j l m=>(vo a d e f h i j l m).getD (0,[],[],[],[],0,[],[],0)
theorem out{x}:∀a d e f h i j l m,vo a d e f h i j l m=aj x->c a d e f h i j l m=ak/\v a d e f h i j l m=x:=λ_ _ _ _ _ _ _ _ _=>Lib.dy
end kZ

namespace kG
def b(kr:aY->aD R)(a d e:aA):aD R:=bif decide (a≥d)then kr (decide (a<=e))else kr aq
def v(a0 a1 a2:aA):aY:=bif decide (a0≥a1)then decide (a0<=a2)else aq
theorem fI(kr:aY->aD R)(a0 a1 a2:aA):b kr a0 a1 a2=kr (v a0 a1 a2):=by first|rfl|(unfold b v;simp only[c8];(repeat' split)<;>rfl)
end kG

namespace Gx
def b(kr:aY->aD R)(a:au):aD R:=kr (kG.v (a.size:aA) 1 30)
def v(a0:au):aY:=(kG.v (a0.size:aA) 1 30)
theorem fI(kr:aY->aD R)(a0:au):b kr a0=kr (v a0):=by first|rfl|(unfold b v;simp only[c8];(repeat' split)<;>rfl)
end Gx

namespace iL
def b(kr:aY->aD R)(a:au)(d e:aA)(f:au):aD R:=bif Gx.v a then bif kG.v d 0 1000000000 then bif kG.v e 1 999999 then kr (decide ((f.size:aA)<=400))else kr aq else kr aq else kr aq
def v(a0:au)(a1 a2:aA)(a3:au):aY:=bif Gx.v a0 then bif kG.v a1 0 1000000000 then bif kG.v a2 1 999999 then decide ((a3.size:aA)<=400)else aq else aq else aq
theorem fI(kr:aY->aD R)(a0:au)(a1 a2:aA)(a3:au):b kr a0 a1 a2 a3=kr (v a0 a1 a2 a3):=by first|rfl|(unfold b v;simp only[c8];(repeat' split)<;>rfl)
theorem Gd{k:au}{s l:aA}{b:au}(h:v k s l b=ak):(1<=k.size/\k.size<=30)/\(0<=s/\s<=1000000000)/\(1<=l/\l<=999999)/\b.size<=400:=by unfold v at h;cases h1:Gx.v k<;>rw[h1]at h<;>simp only[ay,aC,dj]at h;cases h2:kG.v s 0 1000000000<;>rw[h2]at h<;>simp only[ay,aC,dj]at h;cases h3:kG.v l 1 999999<;>rw[h3]at h<;>simp only[ay,aC,dj]at h;simp[Gx.v,kG.v]at h1 h2 h3;have:=b9 h;omega
end iL

namespace eS
def r2(N:aG)(g k0 k1:IA R)(a:aX)(d:au)(e:aY)(f:aA):aD R:=bif decide (f<(a.length:aA))then bif decide (0<=f)&&decide (f<(a.length:aA))then bif dC (bQ (aw a f.toNat 0)).toList (aL d)then k0 a d ak f else g a d e (bM (f+1))else ao else k1 a d e f
def l2(N:aG)(k0 k1:IA R):aG->IA R
 |0=>λ_ _ _ _=>ao
 |n+1=>r2 N (l2 N k0 k1 n) k0 k1
def b(N:aG)(kr:aY->aD R)(a:aX)(d:au):aD R:=l2 N (λ_ _ e _=>kr e) (λ_ _ _ _=>kr aq) N a d aq 0
def vo:=b Lib.c7 λr0=>aj r0
def c:=λa d=>(vo a d).isSome
def v:=λa d=>(vo a d).getD aq
theorem out{x}:∀a d,vo a d=aj x->c a d=ak/\v a d=x:=λ_ _=>Lib.dy
end eS

namespace sa
def b(kr:aY->aD R)(a d e:aX)(f:aA)(h:au):aD R:=bif eS.c a h then bif eS.v a h then kr ak else bif eS.c d h then kr (eS.v d h)else ao else ao
def vo:=b λr0=>aj r0
def c:=λa d e f h=>(vo a d e f h).isSome
def v:=λa d e f h=>(vo a d e f h).getD aq
theorem out{x}:∀a d e f h,vo a d e f h=aj x->c a d e f h=ak/\v a d e f h=x:=λ_ _ _ _ _=>Lib.dy
end sa

namespace fg
def r9(N:aG)(g k0 k1:DS R)(a:aY)(d e:aA)(f:aX)(h:aA):aD R:=bif decide (0<=d)&&decide (d<(f.length:aA))then bif decide (e<((ju (aw f d.toNat 0)).length:aA))then bif decide (0<=d)&&decide (d<(f.length:aA))then bif decide (0<=e)&&decide (e<((ju (aw f d.toNat 0)).length:aA))then bif !kG.v (bY (aw (ju (aw f d.toNat 0)) e.toNat 0)) 0 15 then k0 aq d e f h else g a d (bM (e+1)) f h else ao else ao else k1 a d e f h else ao
def l9(N:aG)(k0 k1:DS R):aG->DS R
 |0=>λ_ _ _ _ _=>ao
 |n+1=>r9 N (l9 N k0 k1 n) k0 k1
def r4(N:aG)(g k0 k1:Ix R)(a:aY)(d:aA)(e:aX)(f:aA):aD R:=bif decide (d<(e.length:aA))then bif decide (0<=d)&&decide (d<(e.length:aA))then bif((ju (aw e d.toNat 0)).length:aA) !=16 then k0 aq d e f else l9 N (λh i _ j l=>k0 h i j l) (λh i _ j l=>g h (bM (i+1)) j l) N a d 0 e f else ao else k1 a d e f
def l4(N:aG)(k0 k1:Ix R):aG->Ix R
 |0=>λ_ _ _ _=>ao
 |n+1=>r4 N (l4 N k0 k1 n) k0 k1
def b(N:aG)(kr:aY->aD R)(a:aX)(d:aA):aD R:=bif(a.length:aA) !=3 then kr aq else bif !kG.v d 0 63 then kr aq else l4 N (λe _ _ _=>kr e) (λ_ _ _ _=>kr ak) N aq 0 a d
def vo:=b Lib.c7 λr0=>aj r0
def c:=λa d=>(vo a d).isSome
def v:=λa d=>(vo a d).getD aq
theorem out{x}:∀a d,vo a d=aj x->c a d=ak/\v a d=x:=λ_ _=>Lib.dy
end fg

namespace jj
def r3(N:aG)(g k0 k1:wL R)(a:aY)(d:aA)(e f h:aX)(i:aA)(j:aX):aD R:=bif decide (d<(j.length:aA))then bif decide (0<=d)&&decide (d<(j.length:aA))then bif !Gx.v (bQ (aw j d.toNat 0))then k0 aq d e f h i j else bif iO 0 d (j.length:aA)then bif decide (0<=d)&&decide (d<(j.length:aA))then bif eS.c (eP j (bc 0) d.toNat) (bQ (aw j d.toNat 0))then bif eS.v (eP j (bc 0) d.toNat) (bQ (aw j d.toNat 0))then k0 aq d e f h i j else g a (bM (d+1)) e f h i j else ao else ao else ao else ao else k1 a d e f h i j
def l3(N:aG)(k0 k1:wL R):aG->wL R
 |0=>λ_ _ _ _ _ _ _=>ao
 |n+1=>r3 N (l3 N k0 k1 n) k0 k1
def b(N:aG)(kr:aY->aD R)(a d e:aX)(f:aA):aD R:=bif cJ ((aT [.s] 0).length+a.length) 16 then bif cJ ((aT [.s] 0++a).length+d.length) 16 then l3 N (λh _ _ _ _ _ _=>kr h) (λ_ _ h i j l _=>bif decide ((h.length:aA)<=2)then bif decide ((i.length:aA)<=4)then bif fg.c j l then kr (fg.v j l)else ao else kr aq else kr aq) N aq 0 a d e f (aT [.s] 0++a++d)else ao else ao
def vo:=b Lib.c7 λr0=>aj r0
def c:=λa d e f=>(vo a d e f).isSome
def v:=λa d e f=>(vo a d e f).getD aq
theorem out{x}:∀a d e f,vo a d e f=aj x->c a d e f=ak/\v a d e f=x:=λ_ _ _ _=>Lib.dy
end jj

namespace m8
def r2(N:aG)(g k0 k1:gP R)(a:aY)(d e:aA)(f h i j:aX)(l:aA)(m o:aX)(p:aA):aD R:=bif decide (d<(f.length:aA))then bif decide (0<=d)&&decide (d<(f.length:aA))then bif !iL.v (bQ (aw f d.toNat 0)) (bY (aw f d.toNat 1)) (bY (aw f d.toNat (1+1))) (bQ (aw f d.toNat (1+1+1)))then k0 aq d e f h i j l m o p else bif decide (d>0)then bif decide (0<=bM (d-1))&&decide (bM (d-1)<(f.length:aA))then bif decide (0<=d)&&decide (d<(f.length:aA))then bif !Op.bytesLess (bQ (aw f (bM (d-1)).toNat 0)).toList (bQ (aw f d.toNat 0)).toList then k0 aq d e f h i j l m o p else bif decide (0<=d)&&decide (d<(f.length:aA))then bif sa.c h i j l (bQ (aw f d.toNat 0))then bif !sa.v h i j l (bQ (aw f d.toNat 0))then k0 aq d e f h i j l m o p else g a (bM (d+1)) e f h i j l m o p else ao else ao else ao else ao else bif decide (0<=d)&&decide (d<(f.length:aA))then bif sa.c h i j l (bQ (aw f d.toNat 0))then bif !sa.v h i j l (bQ (aw f d.toNat 0))then k0 aq d e f h i j l m o p else g a (bM (d+1)) e f h i j l m o p else ao else ao else ao else k1 a d e f h i j l m o p
def l2(N:aG)(k0 k1:gP R):aG->gP R
 |0=>λ_ _ _ _ _ _ _ _ _ _ _=>ao
 |n+1=>r2 N (l2 N k0 k1 n) k0 k1
def b(N:aG)(kr:aY->aD R)(a:aA)(d e f h:aX)(i:aA)(j l:aX)(m:aA):aD R:=l2 N (λo _ _ _ _ _ _ _ _ _ _=>kr o) (λ_ _ _ o p q r s _ _ _=>bif jj.c p q r s then bif jj.v p q r s then kr (decide ((o.length:aA)=bM ((p.length:aA)+(q.length:aA))))else kr aq else ao) N aq 0 a d e f h i j l m
def vo:=b Lib.c7 λr0=>aj r0
def c:=λa d e f h i j l m=>(vo a d e f h i j l m).isSome
def v:=λa d e f h i j l m=>(vo a d e f h i j l m).getD aq
theorem out{x}:∀a d e f h i j l m,vo a d e f h i j l m=aj x->c a d e f h i j l m=ak/\v a d e f h i j l m=x:=λ_ _ _ _ _ _ _ _ _=>Lib.dy
end m8

namespace m9
def r5(N:aG)(g k0 k1:kT R)(a:aA)(d:aY)(e f:aA)(h i j l:aX)(m:aA)(o p:aX)(q:aA)(r s:au)(t u w:aA):aD R:=bif decide (e<a)then bif decide (0<=e)&&decide (e<(o.length:aA))then bif dC (bQ (aw o e.toNat 0)).toList (aL r)then bif decide (0<=e)&&decide (e<(o.length:aA))then bif decide (bY (aw o e.toNat 2)=1)then bif decide (t=1)then k0 a aq e f h i j l m o p q r s t u w else g a d (bM (e+1)) f h i j l m o p q r s t u w else g a d (bM (e+1)) f h i j l m o p q r s t u w else ao else g a d (bM (e+1)) f h i j l m o p q r s t u w else ao else k1 a d e f h i j l m o p q r s t u w
def l5(N:aG)(k0 k1:kT R):aG->kT R
 |0=>λ_ _ _ _ _ _ _ _ _ _ _ _ _ _ _ _ _=>ao
 |n+1=>r5 N (l5 N k0 k1 n) k0 k1
def b(N:aG)(kr:aY->aD R)(a:aA)(d e f h:aX)(i:aA)(j l:aX)(m o:aA):aD R:=bif decide (0<=o)&&decide (o<(j.length:aA))then bif !Gx.v (bQ (aw j o.toNat 0))then kr aq else bif decide (((bQ (aw j o.toNat 1)).size:aA)>400)then kr aq else bif !kG.v (bY (aw j o.toNat (1+1))) 1 3 then kr aq else bif !kG.v (bY (aw j o.toNat (1+1+1))) 0 999999 then kr aq else bif !kG.v (bY (aw j o.toNat (1+1+1+1))) 0 a then kr aq else l5 N (λ_ p _ _ _ _ _ _ _ _ _ _ _ _ _ _ _=>kr p) (λ_ _ _ _ _ _ _ _ _ _ _ _ _ _ _ _ _=>kr ak) N o aq 0 a d e f h i j l m (bQ (aw j o.toNat 0)) (bQ (aw j o.toNat 1)) (bY (aw j o.toNat (1+1))) (bY (aw j o.toNat (1+1+1))) (bY (aw j o.toNat (1+1+1+1)))else ao
def vo:=b Lib.c7 λr0=>aj r0
def c:=λa d e f h i j l m o=>(vo a d e f h i j l m o).isSome
def v:=λa d e f h i j l m o=>(vo a d e f h i j l m o).getD aq
theorem out{x}:∀a d e f h i j l m o,vo a d e f h i j l m o=aj x->c a d e f h i j l m o=ak/\v a d e f h i j l m o=x:=λ_ _ _ _ _ _ _ _ _ _=>Lib.dy
end m9

namespace p8
def r9(N:aG)(g k0 k1:gP R)(a:aY)(d e:aA)(f h i j:aX)(l:aA)(m o:aX)(p:aA):aD R:=bif decide (d<(o.length:aA))then bif decide (0<=d)&&decide (d<(o.length:aA))then bif !kG.v (bY (aw o d.toNat 0)) 1 9 then k0 aq d e f h i j l m o p else bif decide (d>0)then bif decide (0<=bM (d-1))&&decide (bM (d-1)<(o.length:aA))then bif decide (bY (aw o (bM (d-1)).toNat 0)≥bY (aw o d.toNat 0))then k0 aq d e f h i j l m o p else bif !Gx.v (bQ (aw o d.toNat 1))then k0 aq d e f h i j l m o p else bif !kG.v (bY (aw o d.toNat (1+1+1+1))) 1 3 then k0 aq d e f h i j l m o p else bif !kG.v (bY (aw o d.toNat (1+1))) 0 (m.length:aA)then k0 aq d e f h i j l m o p else bif decide (((bQ (aw o d.toNat (1+1+1+1+1))).size:aA)>400)then k0 aq d e f h i j l m o p else bif !kG.v (bY (aw o d.toNat (1+1+1))) 0 e then k0 aq d e f h i j l m o p else bif decide (bY (aw o d.toNat (1+1+1+1+1+1))<0)then k0 aq d e f h i j l m o p else g a (bM (d+1)) e f h i j l m o p else ao else bif !Gx.v (bQ (aw o d.toNat 1))then k0 aq d e f h i j l m o p else bif !kG.v (bY (aw o d.toNat (1+1+1+1))) 1 3 then k0 aq d e f h i j l m o p else bif !kG.v (bY (aw o d.toNat (1+1))) 0 (m.length:aA)then k0 aq d e f h i j l m o p else bif decide (((bQ (aw o d.toNat (1+1+1+1+1))).size:aA)>400)then k0 aq d e f h i j l m o p else bif !kG.v (bY (aw o d.toNat (1+1+1))) 0 e then k0 aq d e f h i j l m o p else bif decide (bY (aw o d.toNat (1+1+1+1+1+1))<0)then k0 aq d e f h i j l m o p else g a (bM (d+1)) e f h i j l m o p else ao else k1 a d e f h i j l m o p
def l9(N:aG)(k0 k1:gP R):aG->gP R
 |0=>λ_ _ _ _ _ _ _ _ _ _ _=>ao
 |n+1=>r9 N (l9 N k0 k1 n) k0 k1
def r4(N:aG)(g k0 k1:gP R)(a:aY)(d e:aA)(f h i j:aX)(l:aA)(m o:aX)(p:aA):aD R:=bif decide (d<(m.length:aA))then bif m9.c e f h i j l m o p d then bif !m9.v e f h i j l m o p d then k0 aq d e f h i j l m o p else g a (bM (d+1)) e f h i j l m o p else ao else k1 a d e f h i j l m o p
def l4(N:aG)(k0 k1:gP R):aG->gP R
 |0=>λ_ _ _ _ _ _ _ _ _ _ _=>ao
 |n+1=>r4 N (l4 N k0 k1 n) k0 k1
def b(N:aG)(kr:aY->aD R)(a:aA)(d e f h:aX)(i:aA)(j l:aX)(m:aA):aD R:=bif !kG.v a 1 1000000000 then kr aq else bif m8.c a d e f h i j l m then bif !m8.v a d e f h i j l m then kr aq else bif decide ((j.length:aA)>20)then kr aq else bif decide ((l.length:aA)>6)then kr aq else bif !kG.v m 0 1000000000 then kr aq else l4 N (λo _ _ _ _ _ _ _ _ _ _=>kr o) (λo _ p q r s t u w y z=>l9 N (λα _ _ _ _ _ _ _ _ _ _=>kr α) (λ_ _ _ _ _ _ _ _ _ _ _=>kr ak) N o 0 p q r s t u w y z) N aq 0 a d e f h i j l m else ao
def vo:=b Lib.c7 λr0=>aj r0
def c:=λa d e f h i j l m=>(vo a d e f h i j l m).isSome
def v:=λa d e f h i j l m=>(vo a d e f h i j l m).getD aq
theorem out{x}:∀a d e f h i j l m,vo a d e f h i j l m=aj x->c a d e f h i j l m=ak/\v a d e f h i j l m=x:=λ_ _ _ _ _ _ _ _ _=>Lib.dy
end p8

namespace KY
def r2(N:aG)(g k0 k1:lI R)(a:au)(d:aY)(e f:aA)(h i j l:aX)(m:aA)(o p:aX)(q:aA)(r:au)(s t:aA)(u:au):aD R:=bif decide (e<(h.length:aA))then bif decide (0<=e)&&decide (e<(h.length:aA))then bif dC (bQ (aw h e.toNat 0)).toList (aL a)then bif decide (0<=e)&&decide (e<(h.length:aA))then k0 a ak e f h i j l m o p q (bQ (aw h e.toNat 0)) (bY (aw h e.toNat 1)) (bY (aw h e.toNat (1+1))) (bQ (aw h e.toNat (1+1+1)))else ao else g a d (bM (e+1)) f h i j l m o p q r s t u else ao else k1 a d e f h i j l m o p q r s t u
def l2(N:aG)(k0 k1:lI R):aG->lI R
 |0=>λ_ _ _ _ _ _ _ _ _ _ _ _ _ _ _ _=>ao
 |n+1=>r2 N (l2 N k0 k1 n) k0 k1
def b(N:aG)(kr:zE R)(a:aA)(d e f h:aX)(i:aA)(j l:aX)(m:aA)(o:au):aD R:=l2 N (λ_ p _ _ _ _ _ _ _ _ _ _ q r s t=>kr q r s t p) (λ_ _ _ _ _ _ _ _ _ _ _ _ _ _ _ _=>kr ⟨#[]⟩ 0 0 ⟨#[]⟩ aq) N o aq 0 a d e f h i j l m ⟨#[]⟩ 0 0 ⟨#[]⟩
def vo:=b Lib.c7 λr0 r1 r2 r3 r4=>aj (r0,r1,r2,r3,r4)
def c:=λa d e f h i j l m o=>(vo a d e f h i j l m o).isSome
def v:=λa d e f h i j l m o=>(vo a d e f h i j l m o).getD (⟨#[]⟩,0,0,⟨#[]⟩,aq)
theorem out{x}:∀a d e f h i j l m o,vo a d e f h i j l m o=aj x->c a d e f h i j l m o=ak/\v a d e f h i j l m o=x:=λ_ _ _ _ _ _ _ _ _ _=>Lib.dy
end KY

namespace EF
def b(kr:aY->aD R)(a:au)(d e:aA)(f:au)(h:aA):aD R:=bif iL.v a d e f then bif kG.v h d 1000000000 then kr (decide (bM (h-d)<e))else kr aq else kr aq
def v(a0:au)(a1 a2:aA)(a3:au)(a4:aA):aY:=bif iL.v a0 a1 a2 a3 then bif kG.v a4 a1 1000000000 then decide (bM (a4-a1)<a2)else aq else aq
theorem fI(kr:aY->aD R)(a0:au)(a1 a2:aA)(a3:au)(a4:aA):b kr a0 a1 a2 a3 a4=kr (v a0 a1 a2 a3 a4):=by first|rfl|(unfold b v;simp only[c8];(repeat' split)<;>rfl)
end EF

namespace jt
def r6(N:aG)(g k0:wN R)(a:aA)(d:au)(e f:aA):aD R:=bif decide (f<8)then bif decide (cF a 2=1)then g (bJ d_ (↑(dO (lH (b_ 32 (bJ d_ (cS a 2))) (b_ 32 3558460437))):aA)) d e (bM (f+1))else g (bJ d_ (cS a 2)) d e (bM (f+1))else k0 a d e f
def l6(N:aG)(k0:wN R):aG->wN R
 |0=>λ_ _ _ _=>ao
 |n+1=>r6 N (l6 N k0 n) k0
def r2(N:aG)(g k0:Ak R)(a:aA)(d:au)(e:aA):aD R:=bif decide (e<(d.size:aA))then bif decide (0<=e)&&decide (e<(d.size:aA))then l6 N (λf h i _=>g f h (bM (i+1))) N (bJ d_ (↑(dO (lH (b_ 32 a) (b_ 32 (bJ d_ (↑(iH d e.toNat):aA))))):aA)) d e 0 else ao else k0 a d e
def l2(N:aG)(k0:Ak R):aG->Ak R
 |0=>λ_ _ _=>ao
 |n+1=>r2 N (l2 N k0 n) k0
def b(N:aG)(kr:aA->aD R)(a:aA)(d:au):aD R:=l2 N (λe _ _=>kr e) N a d 0
def vo:=b Lib.c7 λr0=>aj r0
def c:=λa d=>(vo a d).isSome
def v:=λa d=>(vo a d).getD (0)
theorem out{x}:∀a d,vo a d=aj x->c a d=ak/\v a d=x:=λ_ _=>Lib.dy
end jt

namespace uL
def b(kr:aA->aD R)(a:au):aD R:=bif jt.c 4294967295 a then kr (jt.v 4294967295 a)else ao
def vo:=b λr0=>aj r0
def c:=λa=>(vo a).isSome
def v:=λa=>(vo a).getD (0)
theorem out{x}:∀a,vo a=aj x->c a=ak/\v a=x:=λ_=>Lib.dy
end uL

namespace fW
def b(kr:aA->aD R)(a:aA)(d:au):aD R:=bif decide (d.size+(bytesOf (aE (aT [Ck.i bk] 1) 0 [CV.i bk (bJ bk a)])).size<=4611686018427387904)then bif uL.c (d++bytesOf (aE (aT [Ck.i bk] 1) 0 [CV.i bk (bJ bk a)]))then kr (bM (cF (uL.v (d++bytesOf (aE (aT [Ck.i bk] 1) 0 [CV.i bk (bJ bk a)]))) 16))else ao else ao
def vo:=b λr0=>aj r0
def c:=λa d=>(vo a d).isSome
def v:=λa d=>(vo a d).getD (0)
theorem out{x}:∀a d,vo a d=aj x->c a d=ak/\v a d=x:=λ_ _=>Lib.dy
end fW

namespace fG
def r17(N:aG)(g k0:nQ R)(a d e f:aA)(h:aX):aD R:=bif decide (0<=a)&&decide (a<(h.length:aA))then bif decide (d<((ju (aw h a.toNat 0)).length:aA))then bif decide (0<=a)&&decide (a<(h.length:aA))then bif decide (0<=a)&&decide (a<(h.length:aA))then bif decide (0<=d)&&decide (d<((ju (aw h a.toNat 0)).length:aA))then bif decide (0<=d)&&decide (d<((ju (aw h a.toNat 0)).length:aA))then g a (bM (d+1)) e f (eh h a.toNat 0 [CV.l 3 (eh (ju (aw h a.toNat 0)) d.toNat 0 [.i .i64 (bM (cS (bY (aw (ju (aw h a.toNat 0)) d.toNat 0)) 2))])])else ao else ao else ao else ao else k0 a d e f h else ao
def l17(N:aG)(k0:nQ R):aG->nQ R
 |0=>λ_ _ _ _ _=>ao
 |n+1=>r17 N (l17 N k0 n) k0
def r14(N:aG)(g k0:kU R)(a d e:aA)(f:aX):aD R:=bif decide (a<(f.length:aA))then l17 N (λh _ i j l=>g (bM (h+1)) i j l) N a 0 d e f else k0 a d e f
def l14(N:aG)(k0:kU R):aG->kU R
 |0=>λ_ _ _ _=>ao
 |n+1=>r14 N (l14 N k0 n) k0
def r5(N:aG)(g k0:DY R)(a:au)(d e f:aA)(h:aX):aD R:=bif decide (d<(h.length:aA))then bif fW.c d a then bif decide (0<=d)&&decide (d<(h.length:aA))then bif decide (0<=fW.v d a)&&decide (fW.v d a<((ju (aw h d.toNat 0)).length:aA))then bif decide (bY (aw (ju (aw h d.toNat 0)) (fW.v d a).toNat 0)<15)then bif decide (0<=d)&&decide (d<(h.length:aA))then bif decide (0<=fW.v d a)&&decide (fW.v d a<((ju (aw h d.toNat 0)).length:aA))then bif decide (0<=fW.v d a)&&decide (fW.v d a<((ju (aw h d.toNat 0)).length:aA))then g a (bM (d+1)) e f (eh h d.toNat 0 [CV.l 3 (eh (ju (aw h d.toNat 0)) (fW.v d a).toNat 0 [.i .i64 (bM (bY (aw (ju (aw h d.toNat 0)) (fW.v d a).toNat 0)+1))])])else ao else ao else ao else g a (bM (d+1)) e f h else ao else ao else ao else k0 a d e f h
def l5(N:aG)(k0:DY R):aG->DY R
 |0=>λ_ _ _ _ _=>ao
 |n+1=>r5 N (l5 N k0 n) k0
def b(N:aG)(kr:uq R)(a:aX)(d:aA)(e:au):aD R:=bif nz.c a d then bif fg.c a d then bif !fg.v a d then kr (nz.v a d).1 (nz.v a d).2 else l5 N (λ_ _ f h i=>bif decide (bM (h+1)=64)then l14 N (λ_ _ j l=>kr l j) N 0 f 0 i else kr i (bM (h+1))) N e 0 0 (nz.v a d).2 (nz.v a d).1 else ao else ao
def vo:=b Lib.c7 λr0 r1=>aj (r0,r1)
def c:=λa d e=>(vo a d e).isSome
def v:=λa d e=>(vo a d e).getD ([],0)
theorem out{x}:∀a d e,vo a d e=aj x->c a d e=ak/\v a d e=x:=λ_ _ _=>Lib.dy
end fG

namespace oE
def r3(N:aG)(g k0:wP R)(a:aX)(d:au)(e:aA)(f:aX):aD R:=bif decide (e<(a.length:aA))then bif decide (0<=e)&&decide (e<(a.length:aA))then bif !List.beq (bQ (aw a e.toNat 0)).toList (aL d)then bif decide (0<=e)&&decide (e<(a.length:aA))then bif cJ (f.length+(aE (aT [.s] 1) 0 [.s (bQ (aw a e.toNat 0))]).length) 16 then g a d (bM (e+1)) (f++aE (aT [.s] 1) 0 [.s (bQ (aw a e.toNat 0))])else ao else ao else g a d (bM (e+1)) f else ao else k0 a d e f
def l3(N:aG)(k0:wP R):aG->wP R
 |0=>λ_ _ _ _=>ao
 |n+1=>r3 N (l3 N k0 n) k0
def b(N:aG)(kr:aX->aD R)(a:aX)(d:au):aD R:=l3 N (λ_ _ _ e=>kr e) N a d 0 (aT [.s] 0)
def vo:=b Lib.c7 λr0=>aj r0
def c:=λa d=>(vo a d).isSome
def v:=λa d=>(vo a d).getD ([])
theorem out{x}:∀a d,vo a d=aj x->c a d=ak/\v a d=x:=λ_ _=>Lib.dy
end oE

namespace lY
def r5(N:aG)(g k0:DZ R)(a:au)(d e:aA)(f:aX)(h:aA):aD R:=bif decide (e<(f.length:aA))then bif decide (0<=e)&&decide (e<(f.length:aA))then bif fW.c e a then bif decide (0<=fW.v e a)&&decide (fW.v e a<((ju (aw f e.toNat 0)).length:aA))then bif decide (bY (aw (ju (aw f e.toNat 0)) (fW.v e a).toNat 0)<d)then g a (bY (aw (ju (aw f e.toNat 0)) (fW.v e a).toNat 0)) (bM (e+1)) f h else g a d (bM (e+1)) f h else ao else ao else ao else k0 a d e f h
def l5(N:aG)(k0:DZ R):aG->DZ R
 |0=>λ_ _ _ _ _=>ao
 |n+1=>r5 N (l5 N k0 n) k0
def b(N:aG)(kr:aA->aD R)(a:aX)(d:aA)(e:au):aD R:=bif fg.c a d then bif !fg.v a d then kr 0 else l5 N (λ_ f _ _ _=>kr f) N e 15 0 a d else ao
def vo:=b Lib.c7 λr0=>aj r0
def c:=λa d e=>(vo a d e).isSome
def v:=λa d e=>(vo a d e).getD (0)
theorem out{x}:∀a d e,vo a d e=aj x->c a d e=ak/\v a d e=x:=λ_ _ _=>Lib.dy
end lY

namespace js
def b(kr:Kv R)(a d e:aX)(f:aA)(h:au):aD R:=bif fN.c a d e f then bif jj.c a d e f then bif !jj.v a d e f then kr (fN.v a d e f).1 (fN.v a d e f).2.1 (fN.v a d e f).2.2.1 (fN.v a d e f).2.2.2 ⟨#[]⟩else bif !Gx.v h then kr (fN.v a d e f).1 (fN.v a d e f).2.1 (fN.v a d e f).2.2.1 (fN.v a d e f).2.2.2 ⟨#[]⟩else bif fG.c e f h then bif eS.c a h then bif eS.v a h then bif oE.c a h then bif cJ ((oE.v a h).length+(aE (aT [.s] 1) 0 [.s h]).length) 16 then kr (oE.v a h++aE (aT [.s] 1) 0 [.s h]) (fN.v a d e f).2.1 (fG.v e f h).1 (fG.v e f h).2 ⟨#[]⟩else ao else ao else bif eS.c d h then bif eS.v d h then bif oE.c d h then bif cJ ((oE.v d h).length+(aE (aT [.s] 1) 0 [.s h]).length) 16 then kr (fN.v a d e f).1 (oE.v d h++aE (aT [.s] 1) 0 [.s h]) (fG.v e f h).1 (fG.v e f h).2 ⟨#[]⟩else ao else ao else bif cJ ((fN.v a d e f).1.length+(aE (aT [.s] 1) 0 [.s h]).length) 16 then bif decide ((((fN.v a d e f).1++aE (aT [.s] 1) 0 [.s h]).length:aA)<=2)then kr ((fN.v a d e f).1++aE (aT [.s] 1) 0 [.s h]) (fN.v a d e f).2.1 (fG.v e f h).1 (fG.v e f h).2 ⟨#[]⟩else bif decide (0<(((fN.v a d e f).1++aE (aT [.s] 1) 0 [.s h]).length:aA))then bif iO 1 (((fN.v a d e f).1++aE (aT [.s] 1) 0 [.s h]).length:aA) (((fN.v a d e f).1++aE (aT [.s] 1) 0 [.s h]).length:aA)then bif cJ ((aT [.s] 0).length+(eP ((fN.v a d e f).1++aE (aT [.s] 1) 0 [.s h]) (bc 1) (((fN.v a d e f).1++aE (aT [.s] 1) 0 [.s h]).length:aA).toNat).length) 16 then bif decide (((fN.v a d e f).2.1.length:aA)<4)then bif cJ ((fN.v a d e f).2.1.length+(aE (aT [.s] 1) 0 [.s (bQ (aw ((fN.v a d e f).1++aE (aT [.s] 1) 0 [.s h]) (bc 0) 0))]).length) 16 then kr (aT [.s] 0++eP ((fN.v a d e f).1++aE (aT [.s] 1) 0 [.s h]) (bc 1) (((fN.v a d e f).1++aE (aT [.s] 1) 0 [.s h]).length:aA).toNat) ((fN.v a d e f).2.1++aE (aT [.s] 1) 0 [.s (bQ (aw ((fN.v a d e f).1++aE (aT [.s] 1) 0 [.s h]) (bc 0) 0))]) (fG.v e f h).1 (fG.v e f h).2 ⟨#[]⟩else ao else bif lY.c (fG.v e f h).1 (fG.v e f h).2 (bQ (aw ((fN.v a d e f).1++aE (aT [.s] 1) 0 [.s h]) (bc 0) 0))then bif decide (0<((fN.v a d e f).2.1.length:aA))then bif lY.c (fG.v e f h).1 (fG.v e f h).2 (bQ (aw (fN.v a d e f).2.1 (bc 0) 0))then bif decide (lY.v (fG.v e f h).1 (fG.v e f h).2 (bQ (aw ((fN.v a d e f).1++aE (aT [.s] 1) 0 [.s h]) (bc 0) 0))>lY.v (fG.v e f h).1 (fG.v e f h).2 (bQ (aw (fN.v a d e f).2.1 (bc 0) 0)))then bif decide (0<((fN.v a d e f).2.1.length:aA))then bif iO 1 ((fN.v a d e f).2.1.length:aA) ((fN.v a d e f).2.1.length:aA)then bif cJ ((aT [.s] 0).length+(eP (fN.v a d e f).2.1 (bc 1) ((fN.v a d e f).2.1.length:aA).toNat).length) 16 then bif cJ ((aT [.s] 0++eP (fN.v a d e f).2.1 (bc 1) ((fN.v a d e f).2.1.length:aA).toNat).length+(aE (aT [.s] 1) 0 [.s (bQ (aw ((fN.v a d e f).1++aE (aT [.s] 1) 0 [.s h]) (bc 0) 0))]).length) 16 then kr (aT [.s] 0++eP ((fN.v a d e f).1++aE (aT [.s] 1) 0 [.s h]) (bc 1) (((fN.v a d e f).1++aE (aT [.s] 1) 0 [.s h]).length:aA).toNat) (aT [.s] 0++eP (fN.v a d e f).2.1 (bc 1) ((fN.v a d e f).2.1.length:aA).toNat++aE (aT [.s] 1) 0 [.s (bQ (aw ((fN.v a d e f).1++aE (aT [.s] 1) 0 [.s h]) (bc 0) 0))]) (fG.v e f h).1 (fG.v e f h).2 (bQ (aw (fN.v a d e f).2.1 (bc 0) 0))else ao else ao else ao else ao else kr (aT [.s] 0++eP ((fN.v a d e f).1++aE (aT [.s] 1) 0 [.s h]) (bc 1) (((fN.v a d e f).1++aE (aT [.s] 1) 0 [.s h]).length:aA).toNat) (fN.v a d e f).2.1 (fG.v e f h).1 (fG.v e f h).2 (bQ (aw ((fN.v a d e f).1++aE (aT [.s] 1) 0 [.s h]) (bc 0) 0))else ao else ao else ao else ao else ao else ao else ao else ao else ao else ao else ao else ao
def vo:=b λr0 r1 r2 r3 r4=>aj (r0,r1,r2,r3,r4)
def c:=λa d e f h=>(vo a d e f h).isSome
def v:=λa d e f h=>(vo a d e f h).getD ([],[],[],0,⟨#[]⟩)
theorem out{x}:∀a d e f h,vo a d e f h=aj x->c a d e f h=ak/\v a d e f h=x:=λ_ _ _ _ _=>Lib.dy
end js

namespace ud
def r9(N:aG)(g k0:kA R)(a:aX)(d e:aA)(f:au)(h i j:aA)(l:au)(m:aA)(o:aX):aD R:=bif decide (d<(a.length:aA))then bif decide (0<=d)&&decide (d<(a.length:aA))then bif decide (bY (aw a d.toNat 0)>e)then bif decide (0<=d)&&decide (d<(a.length:aA))then bif cJ (o.length+(aE (aT [Ck.i ar,Ck.s,Ck.i ar,Ck.i ar,Ck.i ar,Ck.s,Ck.i ar] 1) 0 [.i .i64 (bY (aw a d.toNat 0)), .s (bQ (aw a d.toNat 1)), .i .i64 (bY (aw a d.toNat (1+1))), .i .i64 (bY (aw a d.toNat (1+1+1))), .i .i64 (bY (aw a d.toNat (1+1+1+1))), .s (bQ (aw a d.toNat (1+1+1+1+1))), .i .i64 (bY (aw a d.toNat (1+1+1+1+1+1)))]).length) 72 then g a (bM (d+1)) e f h i j l m (o++aE (aT [Ck.i ar,Ck.s,Ck.i ar,Ck.i ar,Ck.i ar,Ck.s,Ck.i ar] 1) 0 [.i .i64 (bY (aw a d.toNat 0)), .s (bQ (aw a d.toNat 1)), .i .i64 (bY (aw a d.toNat (1+1))), .i .i64 (bY (aw a d.toNat (1+1+1))), .i .i64 (bY (aw a d.toNat (1+1+1+1))), .s (bQ (aw a d.toNat (1+1+1+1+1))), .i .i64 (bY (aw a d.toNat (1+1+1+1+1+1)))])else ao else ao else g a (bM (d+1)) e f h i j l m o else ao else k0 a d e f h i j l m o
def l9(N:aG)(k0:kA R):aG->kA R
 |0=>λ_ _ _ _ _ _ _ _ _ _=>ao
 |n+1=>r9 N (l9 N k0 n) k0
def r3(N:aG)(g k0:kA R)(a:aX)(d e:aA)(f:au)(h i j:aA)(l:au)(m:aA)(o:aX):aD R:=bif decide (d<(a.length:aA))then bif decide (0<=d)&&decide (d<(a.length:aA))then bif decide (bY (aw a d.toNat 0)<e)then bif decide (0<=d)&&decide (d<(a.length:aA))then bif cJ (o.length+(aE (aT [Ck.i ar,Ck.s,Ck.i ar,Ck.i ar,Ck.i ar,Ck.s,Ck.i ar] 1) 0 [.i .i64 (bY (aw a d.toNat 0)), .s (bQ (aw a d.toNat 1)), .i .i64 (bY (aw a d.toNat (1+1))), .i .i64 (bY (aw a d.toNat (1+1+1))), .i .i64 (bY (aw a d.toNat (1+1+1+1))), .s (bQ (aw a d.toNat (1+1+1+1+1))), .i .i64 (bY (aw a d.toNat (1+1+1+1+1+1)))]).length) 72 then g a (bM (d+1)) e f h i j l m (o++aE (aT [Ck.i ar,Ck.s,Ck.i ar,Ck.i ar,Ck.i ar,Ck.s,Ck.i ar] 1) 0 [.i .i64 (bY (aw a d.toNat 0)), .s (bQ (aw a d.toNat 1)), .i .i64 (bY (aw a d.toNat (1+1))), .i .i64 (bY (aw a d.toNat (1+1+1))), .i .i64 (bY (aw a d.toNat (1+1+1+1))), .s (bQ (aw a d.toNat (1+1+1+1+1))), .i .i64 (bY (aw a d.toNat (1+1+1+1+1+1)))])else ao else ao else g a (bM (d+1)) e f h i j l m o else ao else k0 a d e f h i j l m o
def l3(N:aG)(k0:kA R):aG->kA R
 |0=>λ_ _ _ _ _ _ _ _ _ _=>ao
 |n+1=>r3 N (l3 N k0 n) k0
def b(N:aG)(kr:aX->aD R)(a:aX)(d:aA)(e:au)(f h i:aA)(j:au)(l:aA):aD R:=l3 N (λm _ o p q r s t u w=>bif cJ (w.length+(aE (aT [Ck.i ar,Ck.s,Ck.i ar,Ck.i ar,Ck.i ar,Ck.s,Ck.i ar] 1) 0 [.i .i64 o, .s p, .i .i64 q, .i .i64 r, .i .i64 s, .s t, .i .i64 u]).length) 72 then l9 N (λ_ _ _ _ _ _ _ _ _ y=>kr y) N m 0 o p q r s t u (w++aE (aT [Ck.i ar,Ck.s,Ck.i ar,Ck.i ar,Ck.i ar,Ck.s,Ck.i ar] 1) 0 [.i .i64 o, .s p, .i .i64 q, .i .i64 r, .i .i64 s, .s t, .i .i64 u])else ao) N a 0 d e f h i j l (aT [Ck.i ar,Ck.s,Ck.i ar,Ck.i ar,Ck.i ar,Ck.s,Ck.i ar] 0)
def vo:=b Lib.c7 λr0=>aj r0
def c:=λa d e f h i j l=>(vo a d e f h i j l).isSome
def v:=λa d e f h i j l=>(vo a d e f h i j l).getD ([])
theorem out{x}:∀a d e f h i j l,vo a d e f h i j l=aj x->c a d e f h i j l=ak/\v a d e f h i j l=x:=λ_ _ _ _ _ _ _ _=>Lib.dy
end ud

namespace Cp
def r3(N:aG)(g k0:wP R)(a:aX)(d:au)(e:aA)(f:aX):aD R:=bif decide (e<(a.length:aA))then bif decide (0<=e)&&decide (e<(a.length:aA))then bif !List.beq (bQ (aw a e.toNat 0)).toList (aL d)then bif decide (0<=e)&&decide (e<(a.length:aA))then bif cJ (f.length+(aE (aT [Ck.s,Ck.i ar,Ck.i ar,Ck.s] 1) 0 [.s (bQ (aw a e.toNat 0)), .i .i64 (bY (aw a e.toNat 1)), .i .i64 (bY (aw a e.toNat (1+1))), .s (bQ (aw a e.toNat (1+1+1)))]).length) 48 then g a d (bM (e+1)) (f++aE (aT [Ck.s,Ck.i ar,Ck.i ar,Ck.s] 1) 0 [.s (bQ (aw a e.toNat 0)), .i .i64 (bY (aw a e.toNat 1)), .i .i64 (bY (aw a e.toNat (1+1))), .s (bQ (aw a e.toNat (1+1+1)))])else ao else ao else g a d (bM (e+1)) f else ao else k0 a d e f
def l3(N:aG)(k0:wP R):aG->wP R
 |0=>λ_ _ _ _=>ao
 |n+1=>r3 N (l3 N k0 n) k0
def b(N:aG)(kr:aX->aD R)(a:aX)(d:au):aD R:=l3 N (λ_ _ _ e=>kr e) N a d 0 (aT [Ck.s,Ck.i ar,Ck.i ar,Ck.s] 0)
def vo:=b Lib.c7 λr0=>aj r0
def c:=λa d=>(vo a d).isSome
def v:=λa d=>(vo a d).getD ([])
theorem out{x}:∀a d,vo a d=aj x->c a d=ak/\v a d=x:=λ_ _=>Lib.dy
end Cp

namespace Ih
def b(kr:wO R)(a d e:aX)(f:aA)(h:au):aD R:=bif oE.c a h then bif oE.c d h then bif nz.c e f then kr (oE.v a h) (oE.v d h) (nz.v e f).1 (nz.v e f).2 else ao else ao else ao
def vo:=b λr0 r1 r2 r3=>aj (r0,r1,r2,r3)
def c:=λa d e f h=>(vo a d e f h).isSome
def v:=λa d e f h=>(vo a d e f h).getD ([],[],[],0)
theorem out{x}:∀a d e f h,vo a d e f h=aj x->c a d e f h=ak/\v a d e f h=x:=λ_ _ _ _ _=>Lib.dy
end Ih

namespace U9
def r22(N:aG)(g k0:f_ R)(a:au)(d:aY)(e f:aA)(h i j l:aX)(m:aA)(o p:aX)(q r s t u w y z:aA)(α:au)(xa xb xc:aA)(xd:au)(xe:aA)(xf xg xh xi xj xk:aX):aD R:=bif decide (e<(o.length:aA))then bif decide (0<=e)&&decide (e<(o.length:aA))then bif dC (bQ (aw o e.toNat 0)).toList (aL a)then bif decide (0<=e)&&decide (e<(o.length:aA))then bif decide (bY (aw o e.toNat 2)=1)then bif decide (0<=e)&&decide (e<(o.length:aA))then g a d (bM (e+1)) f h i j l m o p q r s t u w y z α (bM (e+1)) xb xc (bQ (aw o e.toNat 1)) xe xf xg xh xi xj xk else ao else g a d (bM (e+1)) f h i j l m o p q r s t u w y z α xa xb xc xd xe xf xg xh xi xj xk else ao else g a d (bM (e+1)) f h i j l m o p q r s t u w y z α xa xb xc xd xe xf xg xh xi xj xk else ao else k0 a d e f h i j l m o p q r s t u w y z α xa xb xc xd xe xf xg xh xi xj xk
def Vp(N:aG)(k0:f_ R):aG->f_ R
 |0=>λ_ _ _ _ _ _ _ _ _ _ _ _ _ _ _ _ _ _ _ _ _ _ _ _ _ _ _ _ _ _ _=>ao
 |n+1=>r22 N (Vp N k0 n) k0
def r5(N:aG)(g k0 k1:im R)(a:aA)(d:au)(e f h:aA)(i j l m:aX)(o:aA)(p q:aX)(r s t u w y z:aA)(α xa xb xc xd xe:aX):aD R:=bif decide (f<(q.length:aA))then bif decide (0<=f)&&decide (f<(q.length:aA))then bif decide (bY (aw q f.toNat 0)=a)then k0 a d 1 f h i j l m o p q r w y z w y z α xa xb xc xd xe else g a d e (bM (f+1)) h i j l m o p q r s t u w y z α xa xb xc xd xe else ao else k1 a d e f h i j l m o p q r s t u w y z α xa xb xc xd xe
def l5(N:aG)(k0 k1:im R):aG->im R
 |0=>λ_ _ _ _ _ _ _ _ _ _ _ _ _ _ _ _ _ _ _ _ _ _ _ _ _=>ao
 |n+1=>r5 N (l5 N k0 k1 n) k0 k1
def b(N:aG)(kr:vj R)(a:aA)(d e f h:aX)(i:aA)(j l:aX)(m o:aA)(p:au):aD R:=bif kZ.c a d e f h i j l m then Lib.lt (kZ.v a d e f h i j l m) λq=>bif p8.c a d e f h i j l m then Lib.lt (p8.v a d e f h i j l m) λr=>bif !r then kr q.1 q.2.1 q.2.2.1 q.2.2.2.1 q.2.2.2.2.1 q.2.2.2.2.2.1 q.2.2.2.2.2.2.1 q.2.2.2.2.2.2.2.1 q.2.2.2.2.2.2.2.2 1 else bif !kG.v o 1 9 then kr q.1 q.2.1 q.2.2.1 q.2.2.2.1 q.2.2.2.2.1 q.2.2.2.2.2.1 q.2.2.2.2.2.2.1 q.2.2.2.2.2.2.2.1 q.2.2.2.2.2.2.2.2 1 else bif !Gx.v p then kr q.1 q.2.1 q.2.2.1 q.2.2.2.1 q.2.2.2.2.1 q.2.2.2.2.2.1 q.2.2.2.2.2.2.1 q.2.2.2.2.2.2.2.1 q.2.2.2.2.2.2.2.2 1 else bif decide ((l.length:aA)≥6)then kr q.1 q.2.1 q.2.2.1 q.2.2.2.1 q.2.2.2.2.1 q.2.2.2.2.2.1 q.2.2.2.2.2.2.1 q.2.2.2.2.2.2.2.1 q.2.2.2.2.2.2.2.2 1 else l5 N (λ_ _ s _ _ _ _ _ _ _ _ _ _ t u w _ _ _ y z α xa xb xc=>kr t y z α xa u xb xc w s) (λs t _ _ u w y z α xa xb xc xd xe xf xg xh xi xj xk xl xm xn xo xp=>bif KY.c u w y z α xa xb xc xd t then Lib.lt (KY.v u w y z α xa xb xc xd t) λxq=>bif xq.2.2.2.2 then bif EF.v xq.1 xq.2.1 xq.2.2.1 xq.2.2.2.1 u then bif js.c y z α xa t then Lib.lt (js.v y z α xa t) λxr=>bif decide (xj<1000000000)then bif ud.c xp s t 0 xq.2.1 2 xq.2.2.2.1 (bM (u-xq.2.1))then Lib.lt (ud.v xp s t 0 xq.2.1 2 xq.2.2.2.1 (bM (u-xq.2.1))) λxs=>kr xh xk xr.1 xr.2.1 xr.2.2.1 xr.2.2.2.1 xo xs (bM (xj+1)) 0 else ao else bif ud.c xp s t 0 xq.2.1 2 xq.2.2.2.1 (bM (u-xq.2.1))then Lib.lt (ud.v xp s t 0 xq.2.1 2 xq.2.2.2.1 (bM (u-xq.2.1))) λxs=>kr xh xk xr.1 xr.2.1 xr.2.2.1 xr.2.2.2.1 xo xs xj 0 else ao else ao else Vp N (λxr xs _ _ _ _ _ _ _ xt _ _ _ _ _ xu xv xw xx xy xz ya yb yc yd ye yf yg yh yi yj=>bif decide (xz=0)then bif decide ((xt.length:aA)≥20)then kr xu ye yf yg yh xv yi yj xw 2 else bif cJ (yi.length+(aE (aT [Ck.s,Ck.s,Ck.i ar,Ck.i ar,Ck.i ar] 1) 0 [.s xr, .s ⟨#[]⟩, .i .i64 1, .i .i64 0, .i .i64 0]).length) 56 then bif xs then bif Cp.c ye xr then Lib.lt (Cp.v ye xr) λyk=>bif Ih.c yf yg yh xv xr then Lib.lt (Ih.v yf yg yh xv xr) λyl=>bif fG.c yl.2.2.1 yl.2.2.2 xr then Lib.lt (fG.v yl.2.2.1 yl.2.2.2 xr) λym=>bif ud.c yj xx xy ((yi++aE (aT [Ck.s,Ck.s,Ck.i ar,Ck.i ar,Ck.i ar] 1) 0 [.s xr, .s ⟨#[]⟩, .i .i64 1, .i .i64 0, .i .i64 0]).length:aA) ya yb yc yd then Lib.lt (ud.v yj xx xy ((yi++aE (aT [Ck.s,Ck.s,Ck.i ar,Ck.i ar,Ck.i ar] 1) 0 [.s xr, .s ⟨#[]⟩, .i .i64 1, .i .i64 0, .i .i64 0]).length:aA) ya yb yc yd) λyn=>kr xu yk yl.1 yl.2.1 ym.1 ym.2 (yi++aE (aT [Ck.s,Ck.s,Ck.i ar,Ck.i ar,Ck.i ar] 1) 0 [.s xr, .s ⟨#[]⟩, .i .i64 1, .i .i64 0, .i .i64 0]) yn xw 0 else ao else ao else ao else ao else bif fG.c yh xv xr then Lib.lt (fG.v yh xv xr) λyk=>bif ud.c yj xx xy ((yi++aE (aT [Ck.s,Ck.s,Ck.i ar,Ck.i ar,Ck.i ar] 1) 0 [.s xr, .s ⟨#[]⟩, .i .i64 1, .i .i64 0, .i .i64 0]).length:aA) ya yb yc yd then Lib.lt (ud.v yj xx xy ((yi++aE (aT [Ck.s,Ck.s,Ck.i ar,Ck.i ar,Ck.i ar] 1) 0 [.s xr, .s ⟨#[]⟩, .i .i64 1, .i .i64 0, .i .i64 0]).length:aA) ya yb yc yd) λyl=>kr xu ye yf yg yk.1 yk.2 (yi++aE (aT [Ck.s,Ck.s,Ck.i ar,Ck.i ar,Ck.i ar] 1) 0 [.s xr, .s ⟨#[]⟩, .i .i64 1, .i .i64 0, .i .i64 0]) yl xw 0 else ao else ao else ao else bif xs then bif Cp.c ye xr then Lib.lt (Cp.v ye xr) λyk=>bif Ih.c yf yg yh xv xr then Lib.lt (Ih.v yf yg yh xv xr) λyl=>bif fG.c yl.2.2.1 yl.2.2.2 xr then Lib.lt (fG.v yl.2.2.1 yl.2.2.2 xr) λym=>bif ud.c yj xx xy xz ya yb yc yd then Lib.lt (ud.v yj xx xy xz ya yb yc yd) λyn=>kr xu yk yl.1 yl.2.1 ym.1 ym.2 yi yn xw 0 else ao else ao else ao else ao else bif fG.c yh xv xr then Lib.lt (fG.v yh xv xr) λyk=>bif ud.c yj xx xy xz ya yb yc yd then Lib.lt (ud.v yj xx xy xz ya yb yc yd) λyl=>kr xu ye yf yg yk.1 yk.2 yi yl xw 0 else ao else ao) N t xq.2.2.2.2 0 u w y z α xa xb xc xd xe xf xg xh xi xj s t 0 0 1 ⟨#[]⟩ 0 xk xl xm xn xo xp else Vp N (λxr xs _ _ _ _ _ _ _ xt _ _ _ _ _ xu xv xw xx xy xz ya yb yc yd ye yf yg yh yi yj=>bif decide (xz=0)then bif decide ((xt.length:aA)≥20)then kr xu ye yf yg yh xv yi yj xw 2 else bif cJ (yi.length+(aE (aT [Ck.s,Ck.s,Ck.i ar,Ck.i ar,Ck.i ar] 1) 0 [.s xr, .s ⟨#[]⟩, .i .i64 1, .i .i64 0, .i .i64 0]).length) 56 then bif xs then bif Cp.c ye xr then Lib.lt (Cp.v ye xr) λyk=>bif Ih.c yf yg yh xv xr then Lib.lt (Ih.v yf yg yh xv xr) λyl=>bif fG.c yl.2.2.1 yl.2.2.2 xr then Lib.lt (fG.v yl.2.2.1 yl.2.2.2 xr) λym=>bif ud.c yj xx xy ((yi++aE (aT [Ck.s,Ck.s,Ck.i ar,Ck.i ar,Ck.i ar] 1) 0 [.s xr, .s ⟨#[]⟩, .i .i64 1, .i .i64 0, .i .i64 0]).length:aA) ya yb yc yd then Lib.lt (ud.v yj xx xy ((yi++aE (aT [Ck.s,Ck.s,Ck.i ar,Ck.i ar,Ck.i ar] 1) 0 [.s xr, .s ⟨#[]⟩, .i .i64 1, .i .i64 0, .i .i64 0]).length:aA) ya yb yc yd) λyn=>kr xu yk yl.1 yl.2.1 ym.1 ym.2 (yi++aE (aT [Ck.s,Ck.s,Ck.i ar,Ck.i ar,Ck.i ar] 1) 0 [.s xr, .s ⟨#[]⟩, .i .i64 1, .i .i64 0, .i .i64 0]) yn xw 0 else ao else ao else ao else ao else bif fG.c yh xv xr then Lib.lt (fG.v yh xv xr) λyk=>bif ud.c yj xx xy ((yi++aE (aT [Ck.s,Ck.s,Ck.i ar,Ck.i ar,Ck.i ar] 1) 0 [.s xr, .s ⟨#[]⟩, .i .i64 1, .i .i64 0, .i .i64 0]).length:aA) ya yb yc yd then Lib.lt (ud.v yj xx xy ((yi++aE (aT [Ck.s,Ck.s,Ck.i ar,Ck.i ar,Ck.i ar] 1) 0 [.s xr, .s ⟨#[]⟩, .i .i64 1, .i .i64 0, .i .i64 0]).length:aA) ya yb yc yd) λyl=>kr xu ye yf yg yk.1 yk.2 (yi++aE (aT [Ck.s,Ck.s,Ck.i ar,Ck.i ar,Ck.i ar] 1) 0 [.s xr, .s ⟨#[]⟩, .i .i64 1, .i .i64 0, .i .i64 0]) yl xw 0 else ao else ao else ao else bif xs then bif Cp.c ye xr then Lib.lt (Cp.v ye xr) λyk=>bif Ih.c yf yg yh xv xr then Lib.lt (Ih.v yf yg yh xv xr) λyl=>bif fG.c yl.2.2.1 yl.2.2.2 xr then Lib.lt (fG.v yl.2.2.1 yl.2.2.2 xr) λym=>bif ud.c yj xx xy xz ya yb yc yd then Lib.lt (ud.v yj xx xy xz ya yb yc yd) λyn=>kr xu yk yl.1 yl.2.1 ym.1 ym.2 yi yn xw 0 else ao else ao else ao else ao else bif fG.c yh xv xr then Lib.lt (fG.v yh xv xr) λyk=>bif ud.c yj xx xy xz ya yb yc yd then Lib.lt (ud.v yj xx xy xz ya yb yc yd) λyl=>kr xu ye yf yg yk.1 yk.2 yi yl xw 0 else ao else ao) N t xq.2.2.2.2 0 u w y z α xa xb xc xd xe xf xg xh xi xj s t 0 0 1 ⟨#[]⟩ 0 xk xl xm xn xo xp else ao) N o p 0 0 a d e f h i j l m 0 0 0 q.1 q.2.2.2.2.2.1 q.2.2.2.2.2.2.2.2 q.2.1 q.2.2.1 q.2.2.2.1 q.2.2.2.2.1 q.2.2.2.2.2.2.1 q.2.2.2.2.2.2.2.1 else ao else ao
def vo:=b Lib.c7 λr0 r1 r2 r3 r4 r5 r6 r7 r8 r9=>aj (r0,r1,r2,r3,r4,r5,r6,r7,r8,r9)
def c:=λa d e f h i j l m o p=>(vo a d e f h i j l m o p).isSome
def v:=λa d e f h i j l m o p=>(vo a d e f h i j l m o p).getD (0,[],[],[],[],0,[],[],0,0)
theorem out{x}:∀a d e f h i j l m o p,vo a d e f h i j l m o p=aj x->c a d e f h i j l m o p=ak/\v a d e f h i j l m o p=x:=λ_ _ _ _ _ _ _ _ _ _ _=>Lib.dy
end U9

namespace tO
def b(kr:aY->aD R)(a:aA)(d e f h:aX)(i:aA)(j l:aX)(m o:aA):aD R:=bif p8.c a d e f h i j l m then bif p8.v a d e f h i j l m then bif kG.v o 0 (bM ((j.length:aA)-1))then bif decide (0<=o)&&decide (o<(j.length:aA))then kr (decide (bY (aw j o.toNat 2)=1))else ao else kr aq else kr aq else ao
def vo:=b λr0=>aj r0
def c:=λa d e f h i j l m o=>(vo a d e f h i j l m o).isSome
def v:=λa d e f h i j l m o=>(vo a d e f h i j l m o).getD aq
theorem out{x}:∀a d e f h i j l m o,vo a d e f h i j l m o=aj x->c a d e f h i j l m o=ak/\v a d e f h i j l m o=x:=λ_ _ _ _ _ _ _ _ _ _=>Lib.dy
end tO

namespace IK
def b(kr:Al R)(a:aA)(d:au)(e:aX):aD R:=bif cJ ((aT [Ck.i ar,Ck.i ar] 0).length+e.length) 16 then kr a d (aT [Ck.i ar,Ck.i ar] 0++e)else ao
def v(fJ:aA)(eH:au)(dv:aX):aA×au×aX:=(fJ,eH,dv)
def c(fJ:aA)(eH:au)(dv:aX):aY:=decide (dv.length<=4294967296)
theorem fI(kr:Al R)(fJ:aA)(eH:au)(dv:aX)(hc:c fJ eH dv=ak):b kr fJ eH dv=kr (v fJ eH dv).1 (v fJ eH dv).2.1 (v fJ eH dv).2.2:=by have h:dv.length<=4294967296:=b9 hc;unfold b;rw[show bW (aT [Ck.i ar,Ck.i ar] 0)+dv.length=dv.length by simp[aT],Lib.cy (by omega) (by omega)];rfl
end IK

namespace kY
def r2(N:aG)(g k0 k1:DT R)(a:aY)(d e:aA)(f:au)(h:aX):aD R:=bif decide (d<(h.length:aA))then bif decide (0<=d)&&decide (d<(h.length:aA))then bif !kG.v (bY (aw h d.toNat 0)) 1 9 then k0 aq d e f h else bif decide (d>0)then bif decide (0<=bM (d-1))&&decide (bM (d-1)<(h.length:aA))then bif decide (bY (aw h (bM (d-1)).toNat 0)≥bY (aw h d.toNat 0))then k0 aq d e f h else bif !kG.v (bY (aw h d.toNat 1)) 0 (f.size:aA)then k0 aq d e f h else g a (bM (d+1)) e f h else ao else bif !kG.v (bY (aw h d.toNat 1)) 0 (f.size:aA)then k0 aq d e f h else g a (bM (d+1)) e f h else ao else k1 a d e f h
def l2(N:aG)(k0 k1:DT R):aG->DT R
 |0=>λ_ _ _ _ _=>ao
 |n+1=>r2 N (l2 N k0 k1 n) k0 k1
def b(N:aG)(kr:aY->aD R)(a:aA)(d:au)(e:aX):aD R:=l2 N (λf _ _ _ _=>kr f) (λ_ _ f h i=>bif kG.v f 1 3 then bif decide ((h.size:aA)<=400)then kr (decide ((i.length:aA)<=6))else kr aq else kr aq) N aq 0 a d e
def el(t:au)(rs:aX)(i:aG):aY:=decide (1<=bY (aw rs i 0)/\bY (aw rs i 0)<=9)&&(decide (0<=bY (aw rs i 1)/\bY (aw rs i 1)<=t.size)&&(i==0||decide (bY (aw rs (i-1) 0)<bY (aw rs i 0))))
def rest(st:aA)(t:au)(rs:aX):aY:=decide (1<=st/\st<=3)&&(decide (t.size<=400)&&decide (rs.length<=6))
def v(fJ:aA)(eH:au)(dv:aX):aY:=(cM dv.length).all (el eH dv)&&rest fJ eH dv
theorem mr(n a b:aA):kG.v n a b=decide (a<=n/\n<=b):=by unfold kG.v;by_cases h:a<=n<;>by_cases h2:n<=b<;>simp[h,h2]
theorem LZ(st:aA)(t:au)(rs:aX){R:Type}(kr:aY->aD R):(bif kG.v st 1 3 then bif decide ((t.size:aA)<=400)then kr (decide ((rs.length:aA)<=6))else kr aq else kr aq)=kr (rest st t rs):=by
 unfold rest;rw[mr];have e1:decide ((t.size:aA)<=400)=decide (t.size<=400):=by rw[ch];omega
 have e2:decide ((rs.length:aA)<=6)=decide (rs.length<=6):=by rw[ch];omega
 rw[e1,e2];cases decide (1<=st/\st<=3)<;>cases decide (t.size<=400)<;>rfl
theorem BT{i:aG}(h:0<i)(hn:i<=9223372036854775807):bM ((i:aA)-1)=((i-1:aG):aA):=by rw[jQ (by omega) (by omega)];omega
theorem GD(p:aG->aY){i n:aG}(h:i<n):(lJ i (n-i)).all p=(p i&&(lJ (i+1) (n-(i+1))).all p):=by rw[show n-i=(n-(i+1))+1 by omega,List.range'_succ,r_]
theorem fI(kr:aY->aD R)(fJ:aA)(eH:au)(dv:aX)(f0:Gc eH)(f1:uw dv):∃N,b N kr fJ eH dv=kr (v fJ eH dv):=by
 refine⟨dv.length+1, ?_⟩
 unfold b;simp only[LZ]
 have:=Lib.ij (λn (i:aG)=>l2 (dv.length+1) (λy5 y6 y7 y8 y9=>kr y5) (λMr yE Oj Gf W8=>kr (rest Oj Gf W8)) n aq i fJ eH dv) (λi=>dv.length-i) (λi=>i<=dv.length)
  (λi=>kr ((lJ i (dv.length-i)).all (el eH dv)&&rest fJ eH dv)) (λn i hi=>by
  simp only[l2,r2,Lib.dB,Lib.cR,Lib.eB,bj,mr]
  by_cases h:i<dv.length
  ·rw[GD _ h];simp only[h,aR,ay,Lib.db h f1.1];cases h1:decide (1<=bY (aw dv i 0)/\bY (aw dv i 0)<=9)with
   |false=>left;simp[el,h1]
   |true=>
    simp only[ba,aC];by_cases hz:0<i
    ·have e0:decide ((i:aA)>0)=true:=by simp;omega
     have hp:i-1<dv.length:=by omega
     have hi0:(i==0)=false:=by simp;omega
     simp only[e0,ay,BT hz (by have:=f1.1;omega),Lib.cR,Lib.dB,Lib.eB,hp,aR,aP];cases h2:decide (bY (aw dv (i-1) 0)≥bY (aw dv i 0))with
     |true=>
      left;have e3:decide (bY (aw dv (i-1) 0)<bY (aw dv i 0))=false:=by simp at h2⊢;omega
      simp[el,e3,hi0]
     |false=>
      have e3:decide (bY (aw dv (i-1) 0)<bY (aw dv i 0))=true:=by simp at h2⊢;omega
      cases h3:decide (0<=bY (aw dv i 1)/\bY (aw dv i 1)<=eH.size)with
      |false=>left;simp[el,h3]
      |true=>right;exact⟨i+1,h,by omega,by simp only[el,h1,h3,e3,Iw,bj],rfl⟩
    ·have hz:i=0:=by omega
     subst hz;simp only[show decide (((0:aG):aA)>0)=aq from rfl,aC];cases h3:decide (0<=bY (aw dv 0 1)/\bY (aw dv 0 1)<=eH.size)with
     |false=>left;simp[el,h3]
     |true=>right;exact⟨1,h,by omega,by simp only[el,h1,h3,bj];rfl,rfl⟩
  ·left;have h0:dv.length-i=0:=by omega
   simp only[h,bm,aC,h0,PJ,List.all_nil,bj]) (dv.length+1) 0 (by omega) (by omega)
 refine this.trans ?_;unfold v;rw[uF,<-PK]
end kY

namespace EB
def b(kr:DX R)(a:aA)(d:au)(e:aX)(f:au):aD R:=bif IK.c a d e then bif !kY.v a d e then kr a d e aq else bif a !=1 then kr a d e aq else bif !kG.v (f.size:aA) 1 40 then kr a d e aq else bif decide (bM ((d.size:aA)+(f.size:aA))>400)then kr a d e aq else bif decide (d.size+f.size<=4611686018427387904)then kr a (d++f) e ak else ao else ao
def v(fJ:aA)(eH:au)(dv:aX)(fX:au):aA×au×aX×aY:=
 if kY.v fJ eH dv=ak/\fJ=1/\1<=fX.size/\fX.size<=40/\eH.size+fX.size<=400 then(fJ,eH++fX,dv,ak)else(fJ,eH,dv,aq)
def c(fJ:aA)(eH:au)(dv:aX)(fX:au):aY:=decide (dv.length<=4294967296)
theorem fI(kr:DX R)(fJ:aA)(eH:au)(dv:aX)(fX:au)(hc:c fJ eH dv fX=ak)(f0:Gc eH)(f1:uw dv)(f2:Gc fX):b kr fJ eH dv fX=kr (v fJ eH dv fX).1 (v fJ eH dv fX).2.1 (v fJ eH dv fX).2.2.1 (v fJ eH dv fX).2.2.2:=by
 have hs1:eH.size<=4611686018427387904:=f0;have LB:fX.size<=4611686018427387904:=f2;have e1:IK.c fJ eH dv=true:=hc;have e2:∀a b c,kY.v a b c=kY.v a b c:=λ_ _ _=>rfl;have e3:∀n a b,kG.v n a b=decide (a<=n/\n<=b):=kY.mr;unfold b v;rw[e1,e2,e3,ay];cases h1:kY.v fJ eH dv with
 |false=>simp
 |true=>
  by_cases h2:fJ=1
  ·by_cases h3:1<=(fX.size:aA)/\(fX.size:aA)<=40
   ·have e4:bM ((eH.size:aA)+(fX.size:aA))=eH.size+fX.size:=jQ (by omega) (by omega);rw[e4,aJ h3];by_cases h4:(eH.size:aA)+(fX.size:aA)>400
    ·rw[Lib.AU h4,bL (by omega)];simp[h2]
    ·rw[Lib.GX h4,bC (by refine⟨rfl,h2, ?_, ?_, ?_⟩<;>omega),Lib.AU (show eH.size+fX.size<=4611686018427387904 by omega)];simp[h2]
   ·rw[aM h3,bL (by omega)];simp
  ·have h_:(fJ !=1)=true:=bne_iff_ne.mpr h2;rw[bL (by simp[h2]),h_];rfl
end EB

namespace rL
def r1(N:aG)(g k0:iC R)(a d e f h i:aA)(j l m o p q:aX):aD R:=bif decide (e<(q.length:aA))then bif decide (0<=e)&&decide (e<(q.length:aA))then bif decide (bY (aw q e.toNat 2)=bM (a+1))then bif decide (0<=e)&&decide (e<(q.length:aA))then bif decide (bY (aw q e.toNat 4)=1)then bif decide (0<=a)&&decide (a<(p.length:aA))then bif decide (0<=e)&&decide (e<(q.length:aA))then bif decide (0<=e)&&decide (e<((eh q e.toNat 5 [.s (bQ (aw p a.toNat 1))]).length:aA))then g a d (bM (e+1)) f h i j l m o p (eh (eh q e.toNat 5 [.s (bQ (aw p a.toNat 1))]) e.toNat 4 [.i .i64 d])else ao else ao else ao else g a d (bM (e+1)) f h i j l m o p q else ao else g a d (bM (e+1)) f h i j l m o p q else ao else k0 a d e f h i j l m o p q
def l1(N:aG)(k0:iC R):aG->iC R
 |0=>λ_ _ _ _ _ _ _ _ _ _ _ _=>ao
 |n+1=>r1 N (l1 N k0 n) k0
def b(N:aG)(kr:eJ R)(a:aA)(d e f h:aX)(i:aA)(j l:aX)(m o p:aA):aD R:=l1 N (λ_ _ _ q r s t u w y z α=>kr q t u w y r z α s) N o p 0 a i m d e f h j l
def vo:=b Lib.c7 λr0 r1 r2 r3 r4 r5 r6 r7 r8=>aj (r0,r1,r2,r3,r4,r5,r6,r7,r8)
def c:=λa d e f h i j l m o p=>(vo a d e f h i j l m o p).isSome
def v:=λa d e f h i j l m o p=>(vo a d e f h i j l m o p).getD (0,[],[],[],[],0,[],[],0)
theorem out{x}:∀a d e f h i j l m o p,vo a d e f h i j l m o p=aj x->c a d e f h i j l m o p=ak/\v a d e f h i j l m o p=x:=λ_ _ _ _ _ _ _ _ _ _ _=>Lib.dy
end rL

namespace TJ
def b(kr:km R)(a:aA)(d e f h:aX)(i:aA)(j l:aX)(m o:aA)(p:au):aD R:=bif kZ.c a d e f h i j l m then Lib.lt (kZ.v a d e f h i j l m) λq=>bif tO.c a d e f h i j l m o then Lib.lt (tO.v a d e f h i j l m o) λr=>bif !r then kr q.1 q.2.1 q.2.2.1 q.2.2.2.1 q.2.2.2.2.1 q.2.2.2.2.2.1 q.2.2.2.2.2.2.1 q.2.2.2.2.2.2.2.1 q.2.2.2.2.2.2.2.2 aq else bif decide (0<=o)&&decide (o<(j.length:aA))then bif !(EB.v 1 (bQ (aw j o.toNat 1)) [] p).2.2.2 then kr q.1 q.2.1 q.2.2.1 q.2.2.2.1 q.2.2.2.2.1 q.2.2.2.2.2.1 q.2.2.2.2.2.2.1 q.2.2.2.2.2.2.2.1 q.2.2.2.2.2.2.2.2 aq else bif decide (0<=o)&&decide (o<(q.2.2.2.2.2.2.1.length:aA))then bif rL.c q.1 q.2.1 q.2.2.1 q.2.2.2.1 q.2.2.2.2.1 q.2.2.2.2.2.1 (eh q.2.2.2.2.2.2.1 o.toNat 1 [.s (EB.v 1 (bQ (aw j o.toNat 1)) [] p).2.1]) q.2.2.2.2.2.2.2.1 q.2.2.2.2.2.2.2.2 o 1 then Lib.lt (rL.v q.1 q.2.1 q.2.2.1 q.2.2.2.1 q.2.2.2.2.1 q.2.2.2.2.2.1 (eh q.2.2.2.2.2.2.1 o.toNat 1 [.s (EB.v 1 (bQ (aw j o.toNat 1)) [] p).2.1]) q.2.2.2.2.2.2.2.1 q.2.2.2.2.2.2.2.2 o 1) λs=>kr s.1 s.2.1 s.2.2.1 s.2.2.2.1 s.2.2.2.2.1 s.2.2.2.2.2.1 s.2.2.2.2.2.2.1 s.2.2.2.2.2.2.2.1 s.2.2.2.2.2.2.2.2 ak else ao else ao else ao else ao else ao
def vo:=b λr0 r1 r2 r3 r4 r5 r6 r7 r8 r9=>aj (r0,r1,r2,r3,r4,r5,r6,r7,r8,r9)
def c:=λa d e f h i j l m o p=>(vo a d e f h i j l m o p).isSome
def v:=λa d e f h i j l m o p=>(vo a d e f h i j l m o p).getD (0,[],[],[],[],0,[],[],0,aq)
theorem out{x}:∀a d e f h i j l m o p,vo a d e f h i j l m o p=aj x->c a d e f h i j l m o p=ak/\v a d e f h i j l m o p=x:=λ_ _ _ _ _ _ _ _ _ _ _=>Lib.dy
end TJ

namespace fH
def r9(N:aG)(g k0:oc R)(a:aX)(d:aA)(e:au)(f h:aA)(i:au)(j:aX):aD R:=bif decide (d<(a.length:aA))then bif decide (0<=d)&&decide (d<(a.length:aA))then bif !(cf (bQ (aw a d.toNat 0)).toList (aL e)||List.beq (bQ (aw a d.toNat 0)).toList (aL e))then bif decide (0<=d)&&decide (d<(a.length:aA))then bif cJ (j.length+(aE (aT [Ck.s,Ck.i ar,Ck.i ar,Ck.s] 1) 0 [.s (bQ (aw a d.toNat 0)), .i .i64 (bY (aw a d.toNat 1)), .i .i64 (bY (aw a d.toNat (1+1))), .s (bQ (aw a d.toNat (1+1+1)))]).length) 48 then g a (bM (d+1)) e f h i (j++aE (aT [Ck.s,Ck.i ar,Ck.i ar,Ck.s] 1) 0 [.s (bQ (aw a d.toNat 0)), .i .i64 (bY (aw a d.toNat 1)), .i .i64 (bY (aw a d.toNat (1+1))), .s (bQ (aw a d.toNat (1+1+1)))])else ao else ao else g a (bM (d+1)) e f h i j else ao else k0 a d e f h i j
def l9(N:aG)(k0:oc R):aG->oc R
 |0=>λ_ _ _ _ _ _ _=>ao
 |n+1=>r9 N (l9 N k0 n) k0
def r3(N:aG)(g k0:oc R)(a:aX)(d:aA)(e:au)(f h:aA)(i:au)(j:aX):aD R:=bif decide (d<(a.length:aA))then bif decide (0<=d)&&decide (d<(a.length:aA))then bif cf (bQ (aw a d.toNat 0)).toList (aL e)then bif decide (0<=d)&&decide (d<(a.length:aA))then bif cJ (j.length+(aE (aT [Ck.s,Ck.i ar,Ck.i ar,Ck.s] 1) 0 [.s (bQ (aw a d.toNat 0)), .i .i64 (bY (aw a d.toNat 1)), .i .i64 (bY (aw a d.toNat (1+1))), .s (bQ (aw a d.toNat (1+1+1)))]).length) 48 then g a (bM (d+1)) e f h i (j++aE (aT [Ck.s,Ck.i ar,Ck.i ar,Ck.s] 1) 0 [.s (bQ (aw a d.toNat 0)), .i .i64 (bY (aw a d.toNat 1)), .i .i64 (bY (aw a d.toNat (1+1))), .s (bQ (aw a d.toNat (1+1+1)))])else ao else ao else g a (bM (d+1)) e f h i j else ao else k0 a d e f h i j
def l3(N:aG)(k0:oc R):aG->oc R
 |0=>λ_ _ _ _ _ _ _=>ao
 |n+1=>r3 N (l3 N k0 n) k0
def b(N:aG)(kr:aX->aD R)(a:aX)(d:au)(e f:aA)(h:au):aD R:=l3 N (λi _ j l m o p=>bif cJ (p.length+(aE (aT [Ck.s,Ck.i ar,Ck.i ar,Ck.s] 1) 0 [.s j, .i .i64 l, .i .i64 m, .s o]).length) 48 then l9 N (λ_ _ _ _ _ _ q=>kr q) N i 0 j l m o (p++aE (aT [Ck.s,Ck.i ar,Ck.i ar,Ck.s] 1) 0 [.s j, .i .i64 l, .i .i64 m, .s o])else ao) N a 0 d e f h (aT [Ck.s,Ck.i ar,Ck.i ar,Ck.s] 0)
def vo:=b Lib.c7 λr0=>aj r0
def c:=λa d e f h=>(vo a d e f h).isSome
def v:=λa d e f h=>(vo a d e f h).getD ([])
theorem out{x}:∀a d e f h,vo a d e f h=aj x->c a d e f h=ak/\v a d e f h=x:=λ_ _ _ _ _=>Lib.dy
end fH

namespace xN
def b(kr:eJ R)(a:aA)(d e f h:aX)(i:aA)(j l:aX)(m:aA)(o:au)(p q:aA)(r:au):aD R:=bif js.c e f h i o then Lib.lt (js.v e f h i o) λs=>bif !List.beq (aL s.2.2.2.2) (aL ⟨#[]⟩)then bif Cp.c d s.2.2.2.2 then Lib.lt (Cp.v d s.2.2.2.2) λt=>bif sa.c s.1 s.2.1 s.2.2.1 s.2.2.2.1 o then Lib.lt (sa.v s.1 s.2.1 s.2.2.1 s.2.2.2.1 o) λu=>bif u then bif fH.c t o p q r then Lib.lt (fH.v t o p q r) λw=>kr a w s.1 s.2.1 s.2.2.1 s.2.2.2.1 j l m else ao else kr a t s.1 s.2.1 s.2.2.1 s.2.2.2.1 j l m else ao else ao else bif sa.c s.1 s.2.1 s.2.2.1 s.2.2.2.1 o then Lib.lt (sa.v s.1 s.2.1 s.2.2.1 s.2.2.2.1 o) λt=>bif t then bif fH.c d o p q r then Lib.lt (fH.v d o p q r) λu=>kr a u s.1 s.2.1 s.2.2.1 s.2.2.2.1 j l m else ao else kr a d s.1 s.2.1 s.2.2.1 s.2.2.2.1 j l m else ao else ao
def vo:=b λr0 r1 r2 r3 r4 r5 r6 r7 r8=>aj (r0,r1,r2,r3,r4,r5,r6,r7,r8)
def c:=λa d e f h i j l m o p q r=>(vo a d e f h i j l m o p q r).isSome
def v:=λa d e f h i j l m o p q r=>(vo a d e f h i j l m o p q r).getD (0,[],[],[],[],0,[],[],0)
theorem out{x}:∀a d e f h i j l m o p q r,vo a d e f h i j l m o p q r=aj x->c a d e f h i j l m o p q r=ak/\v a d e f h i j l m o p q r=x:=λ_ _ _ _ _ _ _ _ _ _ _ _ _=>Lib.dy
end xN

namespace TK
def b(kr:km R)(a:aA)(d e f h:aX)(i:aA)(j l:aX)(m o p:aA):aD R:=bif kZ.c a d e f h i j l m then Lib.lt (kZ.v a d e f h i j l m) λq=>bif tO.c a d e f h i j l m o then Lib.lt (tO.v a d e f h i j l m o) λr=>bif !r then kr q.1 q.2.1 q.2.2.1 q.2.2.2.1 q.2.2.2.2.1 q.2.2.2.2.2.1 q.2.2.2.2.2.2.1 q.2.2.2.2.2.2.2.1 q.2.2.2.2.2.2.2.2 aq else bif !kG.v p 0 999999 then kr q.1 q.2.1 q.2.2.1 q.2.2.2.1 q.2.2.2.2.1 q.2.2.2.2.2.1 q.2.2.2.2.2.2.1 q.2.2.2.2.2.2.2.1 q.2.2.2.2.2.2.2.2 aq else bif decide (0<=o)&&decide (o<(j.length:aA))then bif decide (0<=o)&&decide (o<(q.2.2.2.2.2.2.1.length:aA))then bif rL.c q.1 q.2.1 q.2.2.1 q.2.2.2.1 q.2.2.2.2.1 q.2.2.2.2.2.1 (eh q.2.2.2.2.2.2.1 o.toNat 0 [.s (bQ (aw j o.toNat 0)), .s (bQ (aw j o.toNat 1)), .i .i64 2, .i .i64 p, .i .i64 a]) q.2.2.2.2.2.2.2.1 q.2.2.2.2.2.2.2.2 o 2 then Lib.lt (rL.v q.1 q.2.1 q.2.2.1 q.2.2.2.1 q.2.2.2.2.1 q.2.2.2.2.2.1 (eh q.2.2.2.2.2.2.1 o.toNat 0 [.s (bQ (aw j o.toNat 0)), .s (bQ (aw j o.toNat 1)), .i .i64 2, .i .i64 p, .i .i64 a]) q.2.2.2.2.2.2.2.1 q.2.2.2.2.2.2.2.2 o 2) λs=>bif decide (p>0)then bif xN.c s.1 s.2.1 s.2.2.1 s.2.2.2.1 s.2.2.2.2.1 s.2.2.2.2.2.1 s.2.2.2.2.2.2.1 s.2.2.2.2.2.2.2.1 s.2.2.2.2.2.2.2.2 (bQ (aw j o.toNat 0)) a p (bQ (aw j o.toNat 1))then Lib.lt (xN.v s.1 s.2.1 s.2.2.1 s.2.2.2.1 s.2.2.2.2.1 s.2.2.2.2.2.1 s.2.2.2.2.2.2.1 s.2.2.2.2.2.2.2.1 s.2.2.2.2.2.2.2.2 (bQ (aw j o.toNat 0)) a p (bQ (aw j o.toNat 1))) λt=>kr t.1 t.2.1 t.2.2.1 t.2.2.2.1 t.2.2.2.2.1 t.2.2.2.2.2.1 t.2.2.2.2.2.2.1 t.2.2.2.2.2.2.2.1 t.2.2.2.2.2.2.2.2 ak else ao else kr s.1 s.2.1 s.2.2.1 s.2.2.2.1 s.2.2.2.2.1 s.2.2.2.2.2.1 s.2.2.2.2.2.2.1 s.2.2.2.2.2.2.2.1 s.2.2.2.2.2.2.2.2 ak else ao else ao else ao else ao else ao
def vo:=b λr0 r1 r2 r3 r4 r5 r6 r7 r8 r9=>aj (r0,r1,r2,r3,r4,r5,r6,r7,r8,r9)
def c:=λa d e f h i j l m o p=>(vo a d e f h i j l m o p).isSome
def v:=λa d e f h i j l m o p=>(vo a d e f h i j l m o p).getD (0,[],[],[],[],0,[],[],0,aq)
theorem out{x}:∀a d e f h i j l m o p,vo a d e f h i j l m o p=aj x->c a d e f h i j l m o p=ak/\v a d e f h i j l m o p=x:=λ_ _ _ _ _ _ _ _ _ _ _=>Lib.dy
end TK

namespace jW
def r2(N:aG)(g k0:DV R)(a:aA)(d:aX):aD R:=bif decide (a>127)then bif cJ (d.length+(aE (aT [Ck.i bk] 1) 0 [CV.i bk (bJ bk (bM (cF a 128+128)))]).length) 1 then g (bM (cS a 128)) (d++aE (aT [Ck.i bk] 1) 0 [CV.i bk (bJ bk (bM (cF a 128+128)))])else ao else k0 a d
def l2(N:aG)(k0:DV R):aG->DV R
 |0=>λ_ _=>ao
 |n+1=>r2 N (l2 N k0 n) k0
def b(N:aG)(kr:au->aD R)(a:aA):aD R:=l2 N (λd e=>bif cJ (e.length+(aE (aT [Ck.i bk] 1) 0 [CV.i bk (bJ bk d)]).length) 1 then bif decide ((e++aE (aT [Ck.i bk] 1) 0 [CV.i bk (bJ bk d)]).length<=4611686018427387904)then kr (bytesOf (e++aE (aT [Ck.i bk] 1) 0 [CV.i bk (bJ bk d)]))else ao else ao) N a (aT [Ck.i bk] 0)
def v(n0:aA):au:=bytesOf (Lib.vb n0)
def c(n0:aA):aY:=decide (n0<=9223372036854775807)
theorem fI(kr:au->aD R)(n0:aA)(hc:c n0=ak):∃N,b N kr n0=kr (v n0):=by
 refine⟨n0.toNat+1, ?_⟩
 refine Lib.W3 (λn x acc=>l2 (n0.toNat+1) _ n x acc) kr (λn x acc h hl=> ?_) (λn x acc h hl=> ?_) n0 (b9 hc)
 ·simp only[l2,r2,h,aR,ay,Lib.jK,show acc.length+bW [[CV.i bk (bJ bk (bM (cF x 128+128)))]]=acc.length+1 from rfl,Lib.Sf (show acc.length+1<=140737488355328 by omega),show decide ((128:aA)=0)=aq from rfl,Gk,bX]
 ·simp only[l2,r2,h,bm,aC,Lib.jK,show acc.length+bW [[CV.i bk (bJ bk x)]]=acc.length+1 from rfl,Lib.Sf (show acc.length+1<=140737488355328 by omega),ay];exact Lib.yN (Lib.AU (by rw[bO,bw];omega))
end jW

namespace jN
def b(kr:MA R)(a:au)(d e:aA)(f:au):aD R:=bif !iL.v a d e f then kr ⟨#[]⟩ aq else bif jW.c (a.size:aA)then bif decide ((jW.v (a.size:aA)).size+a.size<=4611686018427387904)then bif jW.c d then bif decide ((jW.v (a.size:aA)++a).size+(jW.v d).size<=4611686018427387904)then bif jW.c e then bif decide ((jW.v (a.size:aA)++a++jW.v d).size+(jW.v e).size<=4611686018427387904)then bif decide ((jW.v (a.size:aA)++a++jW.v d++jW.v e).size+f.size<=4611686018427387904)then kr (jW.v (a.size:aA)++a++jW.v d++jW.v e++f) ak else ao else ao else ao else ao else ao else ao else ao
def rV(k:au)(s l:aA)(b:au):au:=bytesOf (Lib.vb k.size)++k++bytesOf (Lib.vb s)++bytesOf (Lib.vb l)++b
def v(Cs:au)(Ct:aA)(Cu:aA)(Jb:au):au×aY:=if iL.v Cs Ct Cu Jb=ak then(rV Cs Ct Cu Jb,ak)else(⟨#[]⟩,aq)
theorem fI(kr:MA R)(Cs:au)(Ct:aA)(Cu:aA)(Jb:au):b kr Cs Ct Cu Jb=kr (v Cs Ct Cu Jb).1 (v Cs Ct Cu Jb).2:=by
 unfold b v;cases h:iL.v Cs Ct Cu Jb with
 |false=>rfl
 |true=>have hr:=iL.Gd h;have cc:∀x:aA,x<=9223372036854775807->jW.c x=true:=λx hx=>aJ hx;have z1:(jW.v (Cs.size:aA)).size<=64:=Lib.nq (x:=(Cs.size:aA)) (by omega);have z2:(jW.v Ct).size<=64:=Lib.nq (x:=Ct) (by omega);have z3:(jW.v Cu).size<=64:=Lib.nq (x:=Cu) (by omega);simp(disch:=omega) only[ba,aC,cc _ (show(Cs.size:aA)<=9223372036854775807 by omega),cc Ct (by omega),cc Cu (by omega),ay,if_true,Lib.lz,Lib.aeJ];rfl
end jN

namespace o_
def b(kr:au->aD R)(a:aA):aD R:=kr (bytesOf (aE (aE (aE (aE (aT [Ck.i bk] 4) 0 [CV.i bk (bJ bk (kP a (gZ 2 (if bc 24<=32 then bc 24 else 32))))]) 1 [CV.i bk (bJ bk (kP a (gZ 2 (if bc 16<=32 then bc 16 else 32))))]) 2 [CV.i bk (bJ bk (kP a (gZ 2 (if bc 8<=32 then bc 8 else 32))))]) 3 [CV.i bk (bJ bk a)]))
def v(a0:aA):au:=(bytesOf (aE (aE (aE (aE (aT [Ck.i bk] 4) 0 [CV.i bk (bJ bk (kP a0 (gZ 2 (if bc 24<=32 then bc 24 else 32))))]) 1 [CV.i bk (bJ bk (kP a0 (gZ 2 (if bc 16<=32 then bc 16 else 32))))]) 2 [CV.i bk (bJ bk (kP a0 (gZ 2 (if bc 8<=32 then bc 8 else 32))))]) 3 [CV.i bk (bJ bk a0)]))
theorem fI(kr:au->aD R)(a0:aA):b kr a0=kr (v a0):=by first|rfl|(unfold b v;simp only[c8];(repeat' split)<;>rfl)
end o_

namespace fP
def b(kr:MA R)(a:au):aD R:=bif !kG.v (a.size:aA) 1 9000 then kr ⟨#[]⟩ aq else bif jW.c (a.size:aA)then bif uL.c a then bif decide ((jW.v (a.size:aA)).size+(o_.v (uL.v a)).size<=4611686018427387904)then bif decide ((jW.v (a.size:aA)++o_.v (uL.v a)).size+a.size<=4611686018427387904)then kr (jW.v (a.size:aA)++o_.v (uL.v a)++a) ak else ao else ao else ao else ao
def vo:=b λr0 r1=>aj (r0,r1)
def c:=λa=>(vo a).isSome
def v:=λa=>(vo a).getD (⟨#[]⟩,aq)
theorem out{x}:∀a,vo a=aj x->c a=ak/\v a=x:=λ_=>Lib.dy
end fP

namespace Co
def b(kr:Mz R)(a:au)(d e:aA)(f:au):aD R:=bif fP.c (jN.v a d e f).1 then bif !(jN.v a d e f).2 then kr (aT [Ck.i ar,Ck.s,Ck.s,Ck.s] 0) aq else bif !(fP.v (jN.v a d e f).1).2 then kr (aT [Ck.i ar,Ck.s,Ck.s,Ck.s] 0) aq else kr (aE (aE (aT [Ck.i ar,Ck.s,Ck.s,Ck.s] 2) 0 [.i .i64 1, .s {data:= #[ax 107,ax 101,ax 112,ax 116]}, .s (fP.v (jN.v a d e f).1).1, .s ⟨#[]⟩]) 1 [.i .i64 2, .s {data:= #[ax 107,ax 101,ax 112,ax 116]}, .s ⟨#[]⟩, .s ⟨#[]⟩]) ak else ao
def vo:=b λr0 r1=>aj (r0,r1)
def c:=λa d e f=>(vo a d e f).isSome
def v:=λa d e f=>(vo a d e f).getD ([],aq)
theorem out{x}:∀a d e f,vo a d e f=aj x->c a d e f=ak/\v a d e f=x:=λ_ _ _ _=>Lib.dy
end Co

namespace uN
def b(kr:aY->aD R)(a:au):aD R:=kr (kG.v (a.size:aA) 1 8)
def v(a0:au):aY:=(kG.v (a0.size:aA) 1 8)
theorem fI(kr:aY->aD R)(a0:au):b kr a0=kr (v a0):=by first|rfl|(unfold b v;simp only[c8];(repeat' split)<;>rfl)
end uN

namespace fw
def r4(N:aG)(g k0 k1:Oz R)(a:aY)(d:aA)(e:aX):aD R:=bif decide (d<(e.length:aA))then bif decide (0<=d)&&decide (d<(e.length:aA))then bif !uN.v (bQ (aw e d.toNat 0))then k0 aq d e else bif decide (((bQ (aw e d.toNat 1)).size:aA)>20000)then k0 aq d e else bif !kG.v (bY (aw e d.toNat (1+1))) 0 ((bQ (aw e d.toNat 1)).size:aA)then k0 aq d e else bif decide (d>0)then bif decide (0<=bM (d-1))&&decide (bM (d-1)<(e.length:aA))then bif !Op.bytesLess (bQ (aw e (bM (d-1)).toNat 0)).toList (bQ (aw e d.toNat 0)).toList then k0 aq d e else g a (bM (d+1)) e else ao else g a (bM (d+1)) e else ao else k1 a d e
def l4(N:aG)(k0 k1:Oz R):aG->Oz R
 |0=>λ_ _ _=>ao
 |n+1=>r4 N (l4 N k0 k1 n) k0 k1
def b(N:aG)(kr:aY->aD R)(a:aX):aD R:=bif decide ((a.length:aA)>30)then kr aq else l4 N (λd _ _=>kr d) (λ_ _ _=>kr ak) N aq 0 a
def vo:=b Lib.c7 λr0=>aj r0
def c:=λa=>(vo a).isSome
def v:=λa=>(vo a).getD aq
theorem out{x}:∀a,vo a=aj x->c a=ak/\v a=x:=λ_=>Lib.dy
end fw

namespace jV
def r2(N:aG)(g k0 k1:ny R)(a:au)(d e:aA)(f:aX):aD R:=bif decide (e<(f.length:aA))then bif decide (0<=e)&&decide (e<(f.length:aA))then bif dC (bQ (aw f e.toNat 0)).toList (aL a)then k0 a e e f else g a d (bM (e+1)) f else ao else k1 a d e f
def l2(N:aG)(k0 k1:ny R):aG->ny R
 |0=>λ_ _ _ _=>ao
 |n+1=>r2 N (l2 N k0 k1 n) k0 k1
def b(N:aG)(kr:aA->aD R)(a:aX)(d:au):aD R:=l2 N (λ_ e _ _=>kr e) (λ_ _ _ _=>kr (-1)) N d 0 0 a
def vo:=b Lib.c7 λr0=>aj r0
def c:=λa d=>(vo a d).isSome
def v:=λa d=>(vo a d).getD (0)
theorem out{x}:∀a d,vo a d=aj x->c a d=ak/\v a d=x:=λ_ _=>Lib.dy
end jV

namespace kF
def r9(N:aG)(g k0:k_ R)(a:aA)(d:aX)(e f:au)(h:aA)(i:aX):aD R:=bif decide (a<(d.length:aA))then bif decide (0<=a)&&decide (a<(d.length:aA))then bif !(cf (bQ (aw d a.toNat 0)).toList (aL e)||List.beq (bQ (aw d a.toNat 0)).toList (aL e))then bif decide (0<=a)&&decide (a<(d.length:aA))then bif cJ (i.length+(aE (aT [Ck.s,Ck.s,Ck.i ar] 1) 0 [.s (bQ (aw d a.toNat 0)), .s (bQ (aw d a.toNat 1)), .i .i64 (bY (aw d a.toNat (1+1)))]).length) 40 then g (bM (a+1)) d e f h (i++aE (aT [Ck.s,Ck.s,Ck.i ar] 1) 0 [.s (bQ (aw d a.toNat 0)), .s (bQ (aw d a.toNat 1)), .i .i64 (bY (aw d a.toNat (1+1)))])else ao else ao else g (bM (a+1)) d e f h i else ao else k0 a d e f h i
def l9(N:aG)(k0:k_ R):aG->k_ R
 |0=>λ_ _ _ _ _ _=>ao
 |n+1=>r9 N (l9 N k0 n) k0
def r3(N:aG)(g:qE R)(g1:k_ R)(k0:qE R)(k1:k_ R)(a:aA)(d:aX)(e f:au)(h:aA):aD R:=bif decide (a<(d.length:aA))then bif decide (0<=a)&&decide (a<(d.length:aA))then bif cf (bQ (aw d a.toNat 0)).toList (aL e)then bif decide (0<=a)&&decide (a<(d.length:aA))then g1 (bM (a+1)) d e f h ([]++aE (aT [Ck.s,Ck.s,Ck.i ar] 1) 0 [.s (bQ (aw d a.toNat 0)), .s (bQ (aw d a.toNat 1)), .i .i64 (bY (aw d a.toNat (1+1)))])else ao else g (bM (a+1)) d e f h else ao else k0 a d e f h
def z7(N:aG)(g:qE R)(g1:k_ R)(k0:qE R)(k1:k_ R)(a:aA)(d:aX)(e f:au)(h:aA)(i:aX):aD R:=bif decide (a<(d.length:aA))then bif decide (0<=a)&&decide (a<(d.length:aA))then bif cf (bQ (aw d a.toNat 0)).toList (aL e)then bif decide (0<=a)&&decide (a<(d.length:aA))then bif cJ (i.length+(aE (aT [Ck.s,Ck.s,Ck.i ar] 1) 0 [.s (bQ (aw d a.toNat 0)), .s (bQ (aw d a.toNat 1)), .i .i64 (bY (aw d a.toNat (1+1)))]).length) 40 then g1 (bM (a+1)) d e f h (i++aE (aT [Ck.s,Ck.s,Ck.i ar] 1) 0 [.s (bQ (aw d a.toNat 0)), .s (bQ (aw d a.toNat 1)), .i .i64 (bY (aw d a.toNat (1+1)))])else ao else ao else g1 (bM (a+1)) d e f h i else ao else k1 a d e f h i
def tW(N:aG)(k0:qE R)(k1:k_ R):aG->k_ R
 |0=>λ_ _ _ _ _ _=>ao
 |n+1=>z7 N (λx0 x1 x2 x3 x4=>ao) (tW N k0 k1 n) k0 k1
def l3(N:aG)(k0:qE R)(k1:k_ R):aG->qE R
 |0=>λ_ _ _ _ _=>ao
 |n+1=>r3 N (l3 N k0 k1 n) (tW N k0 k1 n) k0 k1
def b(N:aG)(kr:aX->aD R)(a:aX)(d e:au)(f:aA):aD R:=l3 N (λ_ h i j l=>l9 N (λ_ _ _ _ _ m=>kr m) N 0 h i j l ([]++aE (aT [Ck.s,Ck.s,Ck.i ar] 1) 0 [.s i, .s j, .i .i64 l])) (λ_ h i j l m=>bif cJ (m.length+(aE (aT [Ck.s,Ck.s,Ck.i ar] 1) 0 [.s i, .s j, .i .i64 l]).length) 40 then l9 N (λ_ _ _ _ _ o=>kr o) N 0 h i j l (m++aE (aT [Ck.s,Ck.s,Ck.i ar] 1) 0 [.s i, .s j, .i .i64 l])else ao) N 0 a d e f
def vo:=b Lib.c7 λr0=>aj r0
def c:=λa d e f=>(vo a d e f).isSome
def v:=λa d e f=>(vo a d e f).getD ([])
theorem out{x}:∀a d e f,vo a d e f=aj x->c a d e f=ak/\v a d e f=x:=λ_ _ _ _=>Lib.dy
end kF

namespace lZ
def r3(N:aG)(g:oC R)(g1:rY R)(k0:oC R)(k1:rY R)(a:au)(d:aA)(e:aX):aD R:=bif decide (d<(e.length:aA))then bif decide (0<=d)&&decide (d<(e.length:aA))then bif !List.beq (bQ (aw e d.toNat 0)).toList (aL a)then bif decide (0<=d)&&decide (d<(e.length:aA))then g1 a (bM (d+1)) e ([]++aE (aT [Ck.s,Ck.s,Ck.i ar] 1) 0 [.s (bQ (aw e d.toNat 0)), .s (bQ (aw e d.toNat 1)), .i .i64 (bY (aw e d.toNat (1+1)))])else ao else g a (bM (d+1)) e else ao else k0 a d e
def z7(N:aG)(g:oC R)(g1:rY R)(k0:oC R)(k1:rY R)(a:au)(d:aA)(e f:aX):aD R:=bif decide (d<(e.length:aA))then bif decide (0<=d)&&decide (d<(e.length:aA))then bif !List.beq (bQ (aw e d.toNat 0)).toList (aL a)then bif decide (0<=d)&&decide (d<(e.length:aA))then bif cJ (f.length+(aE (aT [Ck.s,Ck.s,Ck.i ar] 1) 0 [.s (bQ (aw e d.toNat 0)), .s (bQ (aw e d.toNat 1)), .i .i64 (bY (aw e d.toNat (1+1)))]).length) 40 then g1 a (bM (d+1)) e (f++aE (aT [Ck.s,Ck.s,Ck.i ar] 1) 0 [.s (bQ (aw e d.toNat 0)), .s (bQ (aw e d.toNat 1)), .i .i64 (bY (aw e d.toNat (1+1)))])else ao else ao else g1 a (bM (d+1)) e f else ao else k1 a d e f
def tW(N:aG)(k0:oC R)(k1:rY R):aG->rY R
 |0=>λ_ _ _ _=>ao
 |n+1=>z7 N (λx0 x1 x2=>ao) (tW N k0 k1 n) k0 k1
def l3(N:aG)(k0:oC R)(k1:rY R):aG->oC R
 |0=>λ_ _ _=>ao
 |n+1=>r3 N (l3 N k0 k1 n) (tW N k0 k1 n) k0 k1
def b(N:aG)(kr:aX->aD R)(a:aX)(d:au):aD R:=l3 N (λ_ _ _=>kr []) (λ_ _ _ e=>kr e) N d 0 a
def vo:=b Lib.c7 λr0=>aj r0
def c:=λa d=>(vo a d).isSome
def v:=λa d=>(vo a d).getD ([])
theorem out{x}:∀a d,vo a d=aj x->c a d=ak/\v a d=x:=λ_ _=>Lib.dy
end lZ

namespace AD
abbrev h0{R:Type}(kr:Mz R)(a:aX)(d:aA)(e f h:au):aD R:=bif jV.c a e then Lib.lt (jV.v a e) λi=>bif decide (i≥0)then bif decide (0<=i)&&decide (i<(a.length:aA))then bif decide (d=1)then bif decide ((bQ (aw a i.toNat 1)).size+f.size<=4611686018427387904)then bif kF.c a (bQ (aw a i.toNat 0)) (bQ (aw a i.toNat 1)++f) (bY (aw a i.toNat (1+1)))then Lib.lt (kF.v a (bQ (aw a i.toNat 0)) (bQ (aw a i.toNat 1)++f) (bY (aw a i.toNat (1+1)))) λj=>bif fw.c j then bif !fw.v j then kr [] aq else kr j ak else ao else ao else ao else bif decide (i<0)then kr [] aq else bif decide (d=2)then bif kF.c a (bQ (aw a i.toNat 0)) (bQ (aw a i.toNat 1)) ((bQ (aw a i.toNat 1)).size:aA)then Lib.lt (kF.v a (bQ (aw a i.toNat 0)) (bQ (aw a i.toNat 1)) ((bQ (aw a i.toNat 1)).size:aA)) λj=>bif fw.c j then bif !fw.v j then kr [] aq else kr j ak else ao else ao else bif decide (d=3)then bif decide (bY (aw a i.toNat (1+1))<((bQ (aw a i.toNat 1)).size:aA))then kr [] aq else bif dC (aL h) (aL e)then kr [] aq else bif !uN.v h then kr [] aq else bif lZ.c a e then bif kF.c (lZ.v a e) h (bQ (aw a i.toNat 1)) (bY (aw a i.toNat (1+1)))then bif fw.c (kF.v (lZ.v a e) h (bQ (aw a i.toNat 1)) (bY (aw a i.toNat (1+1))))then bif !fw.v (kF.v (lZ.v a e) h (bQ (aw a i.toNat 1)) (bY (aw a i.toNat (1+1))))then kr [] aq else kr (kF.v (lZ.v a e) h (bQ (aw a i.toNat 1)) (bY (aw a i.toNat (1+1)))) ak else ao else ao else ao else bif decide (d=4)then bif lZ.c a e then bif fw.c (lZ.v a e)then bif !fw.v (lZ.v a e)then kr [] aq else kr (lZ.v a e) ak else ao else ao else kr [] aq else ao else bif decide (d=1)then bif decide (gh ⟨#[]⟩+f.size<=4611686018427387904)then bif kF.c a e ({data:= #[]}++f) 0 then bif fw.c (kF.v a e ({data:= #[]}++f) 0)then bif !fw.v (kF.v a e ({data:= #[]}++f) 0)then kr [] aq else kr (kF.v a e ({data:= #[]}++f) 0) ak else ao else ao else ao else bif decide (i<0)then kr [] aq else bif decide (d=2)then bif kF.c a e ⟨#[]⟩ (gh ⟨#[]⟩:aA)then bif fw.c (kF.v a e ⟨#[]⟩ (gh ⟨#[]⟩:aA))then bif !fw.v (kF.v a e ⟨#[]⟩ (gh ⟨#[]⟩:aA))then kr [] aq else kr (kF.v a e ⟨#[]⟩ (gh ⟨#[]⟩:aA)) ak else ao else ao else bif decide (d=3)then bif dC (aL h) (aL e)then kr [] aq else bif !uN.v h then kr [] aq else bif lZ.c a e then bif kF.c (lZ.v a e) h ⟨#[]⟩ 0 then bif fw.c (kF.v (lZ.v a e) h ⟨#[]⟩ 0)then bif !fw.v (kF.v (lZ.v a e) h ⟨#[]⟩ 0)then kr [] aq else kr (kF.v (lZ.v a e) h ⟨#[]⟩ 0) ak else ao else ao else ao else bif decide (d=4)then bif lZ.c a e then bif fw.c (lZ.v a e)then bif !fw.v (lZ.v a e)then kr [] aq else kr (lZ.v a e) ak else ao else ao else kr [] aq else ao
def b(kr:Mz R)(a:aX)(d:aA)(e f h:au):aD R:=bif fw.c a then bif !fw.v a then kr [] aq else bif !uN.v e then kr [] aq else bif d !=3 then bif !List.beq (aL h) (aL ⟨#[]⟩)then kr [] aq else bif d !=1 then bif !List.beq (aL f) (aL ⟨#[]⟩)then kr [] aq else h0 kr a d e f h else h0 kr a d e f h else bif d !=1 then bif !List.beq (aL f) (aL ⟨#[]⟩)then kr [] aq else h0 kr a d e f h else h0 kr a d e f h else ao
def vo:=b λr0 r1=>aj (r0,r1)
def c:=λa d e f h=>(vo a d e f h).isSome
def v:=λa d e f h=>(vo a d e f h).getD ([],aq)
theorem out{x}:∀a d e f h,vo a d e f h=aj x->c a d e f h=ak/\v a d e f h=x:=λ_ _ _ _ _=>Lib.dy
end AD

namespace pN
def r3(N:aG)(g k0 k1:qF R)(a:aX)(d e:aA)(f:aX):aD R:=bif decide (e<(a.length:aA))then bif decide (0<=e)&&decide (e<(a.length:aA))then bif AD.c f (bY (aw a e.toNat 0)) (bQ (aw a e.toNat 1)) (bQ (aw a e.toNat (1+1))) (bQ (aw a e.toNat (1+1+1)))then bif !(AD.v f (bY (aw a e.toNat 0)) (bQ (aw a e.toNat 1)) (bQ (aw a e.toNat (1+1))) (bQ (aw a e.toNat (1+1+1)))).2 then k0 a e e f else g a d (bM (e+1)) (AD.v f (bY (aw a e.toNat 0)) (bQ (aw a e.toNat 1)) (bQ (aw a e.toNat (1+1))) (bQ (aw a e.toNat (1+1+1)))).1 else ao else ao else k1 a d e f
def l3(N:aG)(k0 k1:qF R):aG->qF R
 |0=>λ_ _ _ _=>ao
 |n+1=>r3 N (l3 N k0 k1 n) k0 k1
def b(N:aG)(kr:uq R)(a d:aX):aD R:=bif cJ ((aT [Ck.s,Ck.s,Ck.i ar] 0).length+a.length) 40 then l3 N (λ_ e _ f=>kr f e) (λe _ _ f=>kr f (e.length:aA)) N d 0 0 (aT [Ck.s,Ck.s,Ck.i ar] 0++a)else ao
def vo:=b Lib.c7 λr0 r1=>aj (r0,r1)
def c:=λa d=>(vo a d).isSome
def v:=λa d=>(vo a d).getD ([],0)
theorem out{x}:∀a d,vo a d=aj x->c a d=ak/\v a d=x:=λ_ _=>Lib.dy
end pN

namespace zo
def b(kr:aA->aD R)(a:aY):aD R:=bif a then kr 0 else kr 1
def v(a0:aY):aA:=bif a0 then 0 else 1
theorem fI(kr:aA->aD R)(a0:aY):b kr a0=kr (v a0):=by first|rfl|(unfold b v;simp only[c8];(repeat' split)<;>rfl)
end zo

namespace Cm
def b(kr:ru R)(a:aA)(d e f h:aX)(i:aA)(j l:aX)(m:aA)(o p q:aX)(r s:aA)(t:au)(u:aA)(w:aX):aD R:=bif TK.c a d e f h i j l m s (cF u 1000000)then Lib.lt (TK.v a d e f h i j l m s (cF u 1000000)) λy=>bif y.2.2.2.2.2.2.2.2.2 then bif decide (cF u 1000000>0)then bif decide (0<=s)&&decide (s<(y.2.2.2.2.2.2.1.length:aA))then bif cJ ((aT [Ck.s,Ck.i ar,Ck.i ar,Ck.s] 0).length+q.length) 48 then bif cJ ((aT [Ck.s,Ck.i ar,Ck.i ar,Ck.s] 0++q).length+(aE (aT [Ck.s,Ck.i ar,Ck.i ar,Ck.s] 1) 0 [.s (bQ (aw y.2.2.2.2.2.2.1 s.toNat 0)), .i .i64 (bY (aw y.2.2.2.2.2.2.1 s.toNat (1+1+1+1))), .i .i64 (bY (aw y.2.2.2.2.2.2.1 s.toNat (1+1+1))), .s (bQ (aw y.2.2.2.2.2.2.1 s.toNat 1))]).length) 48 then bif Co.c (bQ (aw y.2.2.2.2.2.2.1 s.toNat 0)) (bY (aw y.2.2.2.2.2.2.1 s.toNat (1+1+1+1))) (bY (aw y.2.2.2.2.2.2.1 s.toNat (1+1+1))) (bQ (aw y.2.2.2.2.2.2.1 s.toNat 1))then Lib.lt (Co.v (bQ (aw y.2.2.2.2.2.2.1 s.toNat 0)) (bY (aw y.2.2.2.2.2.2.1 s.toNat (1+1+1+1))) (bY (aw y.2.2.2.2.2.2.1 s.toNat (1+1+1))) (bQ (aw y.2.2.2.2.2.2.1 s.toNat 1))) λz=>bif z.2 then bif pN.c o z.1 then Lib.lt (pN.v o z.1) λα=>kr (zo.v y.2.2.2.2.2.2.2.2.2) y.1 y.2.1 y.2.2.1 y.2.2.2.1 y.2.2.2.2.1 y.2.2.2.2.2.1 y.2.2.2.2.2.2.1 y.2.2.2.2.2.2.2.1 y.2.2.2.2.2.2.2.2.1 α.1 p (aT [Ck.s,Ck.i ar,Ck.i ar,Ck.s] 0++q++aE (aT [Ck.s,Ck.i ar,Ck.i ar,Ck.s] 1) 0 [.s (bQ (aw y.2.2.2.2.2.2.1 s.toNat 0)), .i .i64 (bY (aw y.2.2.2.2.2.2.1 s.toNat (1+1+1+1))), .i .i64 (bY (aw y.2.2.2.2.2.2.1 s.toNat (1+1+1))), .s (bQ (aw y.2.2.2.2.2.2.1 s.toNat 1))])else ao else kr (zo.v y.2.2.2.2.2.2.2.2.2) y.1 y.2.1 y.2.2.1 y.2.2.2.1 y.2.2.2.2.1 y.2.2.2.2.2.1 y.2.2.2.2.2.2.1 y.2.2.2.2.2.2.2.1 y.2.2.2.2.2.2.2.2.1 o p (aT [Ck.s,Ck.i ar,Ck.i ar,Ck.s] 0++q++aE (aT [Ck.s,Ck.i ar,Ck.i ar,Ck.s] 1) 0 [.s (bQ (aw y.2.2.2.2.2.2.1 s.toNat 0)), .i .i64 (bY (aw y.2.2.2.2.2.2.1 s.toNat (1+1+1+1))), .i .i64 (bY (aw y.2.2.2.2.2.2.1 s.toNat (1+1+1))), .s (bQ (aw y.2.2.2.2.2.2.1 s.toNat 1))])else ao else ao else ao else ao else kr (zo.v y.2.2.2.2.2.2.2.2.2) y.1 y.2.1 y.2.2.1 y.2.2.2.1 y.2.2.2.2.1 y.2.2.2.2.2.1 y.2.2.2.2.2.2.1 y.2.2.2.2.2.2.2.1 y.2.2.2.2.2.2.2.2.1 o p q else kr (zo.v y.2.2.2.2.2.2.2.2.2) y.1 y.2.1 y.2.2.1 y.2.2.2.1 y.2.2.2.2.1 y.2.2.2.2.2.1 y.2.2.2.2.2.2.1 y.2.2.2.2.2.2.2.1 y.2.2.2.2.2.2.2.2.1 o p q else ao
def vo:=b λr0 r1 r2 r3 r4 r5 r6 r7 r8 r9 R7 z5 r12=>aj (r0,r1,r2,r3,r4,r5,r6,r7,r8,r9,R7,z5,r12)
def c:=λa d e f h i j l m o p q r s t u w=>(vo a d e f h i j l m o p q r s t u w).isSome
def v:=λa d e f h i j l m o p q r s t u w=>(vo a d e f h i j l m o p q r s t u w).getD (0,0,[],[],[],[],0,[],[],0,[],[],[])
theorem out{x}:∀a d e f h i j l m o p q r s t u w,vo a d e f h i j l m o p q r s t u w=aj x->c a d e f h i j l m o p q r s t u w=ak/\v a d e f h i j l m o p q r s t u w=x:=λ_ _ _ _ _ _ _ _ _ _ _ _ _ _ _ _ _=>Lib.dy
end Cm

namespace TL
def b(kr:km R)(a:aA)(d e f h:aX)(i:aA)(j l:aX)(m o:aA):aD R:=bif kZ.c a d e f h i j l m then Lib.lt (kZ.v a d e f h i j l m) λp=>bif tO.c a d e f h i j l m o then Lib.lt (tO.v a d e f h i j l m o) λq=>bif !q then kr p.1 p.2.1 p.2.2.1 p.2.2.2.1 p.2.2.2.2.1 p.2.2.2.2.2.1 p.2.2.2.2.2.2.1 p.2.2.2.2.2.2.2.1 p.2.2.2.2.2.2.2.2 aq else bif decide (0<=o)&&decide (o<(p.2.2.2.2.2.2.1.length:aA))then bif rL.c p.1 p.2.1 p.2.2.1 p.2.2.2.1 p.2.2.2.2.1 p.2.2.2.2.2.1 (eh p.2.2.2.2.2.2.1 o.toNat 2 [.i .i64 3]) p.2.2.2.2.2.2.2.1 p.2.2.2.2.2.2.2.2 o 3 then Lib.lt (rL.v p.1 p.2.1 p.2.2.1 p.2.2.2.1 p.2.2.2.2.1 p.2.2.2.2.2.1 (eh p.2.2.2.2.2.2.1 o.toNat 2 [.i .i64 3]) p.2.2.2.2.2.2.2.1 p.2.2.2.2.2.2.2.2 o 3) λr=>kr r.1 r.2.1 r.2.2.1 r.2.2.2.1 r.2.2.2.2.1 r.2.2.2.2.2.1 r.2.2.2.2.2.2.1 r.2.2.2.2.2.2.2.1 r.2.2.2.2.2.2.2.2 ak else ao else ao else ao else ao
def vo:=b λr0 r1 r2 r3 r4 r5 r6 r7 r8 r9=>aj (r0,r1,r2,r3,r4,r5,r6,r7,r8,r9)
def c:=λa d e f h i j l m o=>(vo a d e f h i j l m o).isSome
def v:=λa d e f h i j l m o=>(vo a d e f h i j l m o).getD (0,[],[],[],[],0,[],[],0,aq)
theorem out{x}:∀a d e f h i j l m o,vo a d e f h i j l m o=aj x->c a d e f h i j l m o=ak/\v a d e f h i j l m o=x:=λ_ _ _ _ _ _ _ _ _ _=>Lib.dy
end TL

namespace IL
def b(kr:eJ R)(a:aA)(d e f h:aX)(i:aA)(j l:aX)(m o:aA):aD R:=bif kZ.c a d e f h i j l m then bif decide (cF o 1000<0)then bif decide ((kZ.v a d e f h i j l m).1>bM (1000000000-bM (cF o 1000+1000)))then kr 1000000000 (kZ.v a d e f h i j l m).2.1 (kZ.v a d e f h i j l m).2.2.1 (kZ.v a d e f h i j l m).2.2.2.1 (kZ.v a d e f h i j l m).2.2.2.2.1 (kZ.v a d e f h i j l m).2.2.2.2.2.1 (kZ.v a d e f h i j l m).2.2.2.2.2.2.1 (kZ.v a d e f h i j l m).2.2.2.2.2.2.2.1 (kZ.v a d e f h i j l m).2.2.2.2.2.2.2.2 else kr (bM ((kZ.v a d e f h i j l m).1+bM (cF o 1000+1000))) (kZ.v a d e f h i j l m).2.1 (kZ.v a d e f h i j l m).2.2.1 (kZ.v a d e f h i j l m).2.2.2.1 (kZ.v a d e f h i j l m).2.2.2.2.1 (kZ.v a d e f h i j l m).2.2.2.2.2.1 (kZ.v a d e f h i j l m).2.2.2.2.2.2.1 (kZ.v a d e f h i j l m).2.2.2.2.2.2.2.1 (kZ.v a d e f h i j l m).2.2.2.2.2.2.2.2 else bif decide ((kZ.v a d e f h i j l m).1>bM (1000000000-cF o 1000))then kr 1000000000 (kZ.v a d e f h i j l m).2.1 (kZ.v a d e f h i j l m).2.2.1 (kZ.v a d e f h i j l m).2.2.2.1 (kZ.v a d e f h i j l m).2.2.2.2.1 (kZ.v a d e f h i j l m).2.2.2.2.2.1 (kZ.v a d e f h i j l m).2.2.2.2.2.2.1 (kZ.v a d e f h i j l m).2.2.2.2.2.2.2.1 (kZ.v a d e f h i j l m).2.2.2.2.2.2.2.2 else kr (bM ((kZ.v a d e f h i j l m).1+cF o 1000)) (kZ.v a d e f h i j l m).2.1 (kZ.v a d e f h i j l m).2.2.1 (kZ.v a d e f h i j l m).2.2.2.1 (kZ.v a d e f h i j l m).2.2.2.2.1 (kZ.v a d e f h i j l m).2.2.2.2.2.1 (kZ.v a d e f h i j l m).2.2.2.2.2.2.1 (kZ.v a d e f h i j l m).2.2.2.2.2.2.2.1 (kZ.v a d e f h i j l m).2.2.2.2.2.2.2.2 else ao
def vo:=b λr0 r1 r2 r3 r4 r5 r6 r7 r8=>aj (r0,r1,r2,r3,r4,r5,r6,r7,r8)
def c:=λa d e f h i j l m o=>(vo a d e f h i j l m o).isSome
def v:=λa d e f h i j l m o=>(vo a d e f h i j l m o).getD (0,[],[],[],[],0,[],[],0)
theorem out{x}:∀a d e f h i j l m o,vo a d e f h i j l m o=aj x->c a d e f h i j l m o=ak/\v a d e f h i j l m o=x:=λ_ _ _ _ _ _ _ _ _ _=>Lib.dy
end IL

namespace Gw
def r4(N:aG)(g k0:gv R)(a d e:aA)(f h i j:aX)(l:aA)(m o:aX)(p q r s t u w:aA)(y z α xa xb xc:aX):aD R:=bif decide (d<(o.length:aA))then bif decide (0<=d)&&decide (d<(o.length:aA))then bif bY (aw o d.toNat 0) !=a then bif decide (0<=d)&&decide (d<(o.length:aA))then bif cJ (xc.length+(aE (aT [Ck.i ar,Ck.s,Ck.i ar,Ck.i ar,Ck.i ar,Ck.s,Ck.i ar] 1) 0 [.i .i64 (bY (aw o d.toNat 0)), .s (bQ (aw o d.toNat 1)), .i .i64 (bY (aw o d.toNat (1+1))), .i .i64 (bY (aw o d.toNat (1+1+1))), .i .i64 (bY (aw o d.toNat (1+1+1+1))), .s (bQ (aw o d.toNat (1+1+1+1+1))), .i .i64 (bY (aw o d.toNat (1+1+1+1+1+1)))]).length) 72 then g a (bM (d+1)) e f h i j l m o p q r s t u w y z α xa xb (xc++aE (aT [Ck.i ar,Ck.s,Ck.i ar,Ck.i ar,Ck.i ar,Ck.s,Ck.i ar] 1) 0 [.i .i64 (bY (aw o d.toNat 0)), .s (bQ (aw o d.toNat 1)), .i .i64 (bY (aw o d.toNat (1+1))), .i .i64 (bY (aw o d.toNat (1+1+1))), .i .i64 (bY (aw o d.toNat (1+1+1+1))), .s (bQ (aw o d.toNat (1+1+1+1+1))), .i .i64 (bY (aw o d.toNat (1+1+1+1+1+1)))])else ao else ao else g a (bM (d+1)) e f h i j l m o p q r s t u w y z α xa xb xc else ao else k0 a d e f h i j l m o p q r s t u w y z α xa xb xc
def l4(N:aG)(k0:gv R):aG->gv R
 |0=>λ_ _ _ _ _ _ _ _ _ _ _ _ _ _ _ _ _ _ _ _ _ _ _=>ao
 |n+1=>r4 N (l4 N k0 n) k0
def b(N:aG)(kr:eJ R)(a:aA)(d e f h:aX)(i:aA)(j l:aX)(m o:aA):aD R:=bif kZ.c a d e f h i j l m then l4 N (λ_ _ _ _ _ _ _ _ _ _ _ _ _ _ p q r s t u w y z=>kr p s t u w q y z r) N o 0 a d e f h i j l m 0 0 0 (kZ.v a d e f h i j l m).1 (kZ.v a d e f h i j l m).2.2.2.2.2.1 (kZ.v a d e f h i j l m).2.2.2.2.2.2.2.2 (kZ.v a d e f h i j l m).2.1 (kZ.v a d e f h i j l m).2.2.1 (kZ.v a d e f h i j l m).2.2.2.1 (kZ.v a d e f h i j l m).2.2.2.2.1 (kZ.v a d e f h i j l m).2.2.2.2.2.2.1 (aT [Ck.i ar,Ck.s,Ck.i ar,Ck.i ar,Ck.i ar,Ck.s,Ck.i ar] 0)else ao
def vo:=b Lib.c7 λr0 r1 r2 r3 r4 r5 r6 r7 r8=>aj (r0,r1,r2,r3,r4,r5,r6,r7,r8)
def c:=λa d e f h i j l m o=>(vo a d e f h i j l m o).isSome
def v:=λa d e f h i j l m o=>(vo a d e f h i j l m o).getD (0,[],[],[],[],0,[],[],0)
theorem out{x}:∀a d e f h i j l m o,vo a d e f h i j l m o=aj x->c a d e f h i j l m o=ak/\v a d e f h i j l m o=x:=λ_ _ _ _ _ _ _ _ _ _=>Lib.dy
end Gw

namespace vD
def r5(N:aG)(g:vl R)(g1:ur R)(k0:vl R)(k1:ur R)(a:aX)(d:aA)(e:aX):aD R:=bif decide (d<(e.length:aA))then bif decide (0<=d)&&decide (d<(e.length:aA))then bif decide (d<(a.length:aA))then bif decide (0<=d)&&decide (d<(a.length:aA))then bif decide (bY (aw a d.toNat 0)>((bQ (aw e d.toNat 1)).size:aA))then bif decide (((bQ (aw e d.toNat 1)).size:aA)<bY (aw e d.toNat (1+1)))then bif iO 0 (bY (aw e d.toNat (1+1))) ((bQ (aw e d.toNat 1)).size:aA)then g1 a (bM (d+1)) e ([]++aE (aT [Ck.s,Ck.s,Ck.i ar] 1) 0 [.s (bQ (aw e d.toNat 0)), .s (bR (bQ (aw e d.toNat 1)) (bc 0) (bY (aw e d.toNat (1+1))).toNat), .i .i64 (bY (aw e d.toNat (1+1)))])else ao else bif iO 0 ((bQ (aw e d.toNat 1)).size:aA) ((bQ (aw e d.toNat 1)).size:aA)then g1 a (bM (d+1)) e ([]++aE (aT [Ck.s,Ck.s,Ck.i ar] 1) 0 [.s (bQ (aw e d.toNat 0)), .s (bR (bQ (aw e d.toNat 1)) (bc 0) ((bQ (aw e d.toNat 1)).size:aA).toNat), .i .i64 ((bQ (aw e d.toNat 1)).size:aA)])else ao else bif decide (bY (aw a d.toNat 0)<bY (aw e d.toNat (1+1)))then bif iO 0 (bY (aw e d.toNat (1+1))) ((bQ (aw e d.toNat 1)).size:aA)then g1 a (bM (d+1)) e ([]++aE (aT [Ck.s,Ck.s,Ck.i ar] 1) 0 [.s (bQ (aw e d.toNat 0)), .s (bR (bQ (aw e d.toNat 1)) (bc 0) (bY (aw e d.toNat (1+1))).toNat), .i .i64 (bY (aw e d.toNat (1+1)))])else ao else bif iO 0 (bY (aw a d.toNat 0)) ((bQ (aw e d.toNat 1)).size:aA)then g1 a (bM (d+1)) e ([]++aE (aT [Ck.s,Ck.s,Ck.i ar] 1) 0 [.s (bQ (aw e d.toNat 0)), .s (bR (bQ (aw e d.toNat 1)) (bc 0) (bY (aw a d.toNat 0)).toNat), .i .i64 (bY (aw a d.toNat 0))])else ao else ao else bif decide (0<bY (aw e d.toNat (1+1)))then bif iO 0 (bY (aw e d.toNat (1+1))) ((bQ (aw e d.toNat 1)).size:aA)then g1 a (bM (d+1)) e ([]++aE (aT [Ck.s,Ck.s,Ck.i ar] 1) 0 [.s (bQ (aw e d.toNat 0)), .s (bR (bQ (aw e d.toNat 1)) (bc 0) (bY (aw e d.toNat (1+1))).toNat), .i .i64 (bY (aw e d.toNat (1+1)))])else ao else g1 a (bM (d+1)) e ([]++aE (aT [Ck.s,Ck.s,Ck.i ar] 1) 0 [.s (bQ (aw e d.toNat 0)), .s (bR (bQ (aw e d.toNat 1)) (bc 0) (bc 0)), .i .i64 0])else ao else k0 a d e
def r5a(N:aG)(g:vl R)(g1:ur R)(k0:vl R)(k1:ur R)(a:aX)(d:aA)(e f:aX):aD R:=bif decide (d<(e.length:aA))then bif decide (0<=d)&&decide (d<(e.length:aA))then bif decide (d<(a.length:aA))then bif decide (0<=d)&&decide (d<(a.length:aA))then bif decide (bY (aw a d.toNat 0)>((bQ (aw e d.toNat 1)).size:aA))then bif decide (((bQ (aw e d.toNat 1)).size:aA)<bY (aw e d.toNat (1+1)))then bif iO 0 (bY (aw e d.toNat (1+1))) ((bQ (aw e d.toNat 1)).size:aA)then bif cJ (f.length+(aE (aT [Ck.s,Ck.s,Ck.i ar] 1) 0 [.s (bQ (aw e d.toNat 0)), .s (bR (bQ (aw e d.toNat 1)) (bc 0) (bY (aw e d.toNat (1+1))).toNat), .i .i64 (bY (aw e d.toNat (1+1)))]).length) 40 then g1 a (bM (d+1)) e (f++aE (aT [Ck.s,Ck.s,Ck.i ar] 1) 0 [.s (bQ (aw e d.toNat 0)), .s (bR (bQ (aw e d.toNat 1)) (bc 0) (bY (aw e d.toNat (1+1))).toNat), .i .i64 (bY (aw e d.toNat (1+1)))])else ao else ao else bif iO 0 ((bQ (aw e d.toNat 1)).size:aA) ((bQ (aw e d.toNat 1)).size:aA)then bif cJ (f.length+(aE (aT [Ck.s,Ck.s,Ck.i ar] 1) 0 [.s (bQ (aw e d.toNat 0)), .s (bR (bQ (aw e d.toNat 1)) (bc 0) ((bQ (aw e d.toNat 1)).size:aA).toNat), .i .i64 ((bQ (aw e d.toNat 1)).size:aA)]).length) 40 then g1 a (bM (d+1)) e (f++aE (aT [Ck.s,Ck.s,Ck.i ar] 1) 0 [.s (bQ (aw e d.toNat 0)), .s (bR (bQ (aw e d.toNat 1)) (bc 0) ((bQ (aw e d.toNat 1)).size:aA).toNat), .i .i64 ((bQ (aw e d.toNat 1)).size:aA)])else ao else ao else bif decide (bY (aw a d.toNat 0)<bY (aw e d.toNat (1+1)))then bif iO 0 (bY (aw e d.toNat (1+1))) ((bQ (aw e d.toNat 1)).size:aA)then bif cJ (f.length+(aE (aT [Ck.s,Ck.s,Ck.i ar] 1) 0 [.s (bQ (aw e d.toNat 0)), .s (bR (bQ (aw e d.toNat 1)) (bc 0) (bY (aw e d.toNat (1+1))).toNat), .i .i64 (bY (aw e d.toNat (1+1)))]).length) 40 then g1 a (bM (d+1)) e (f++aE (aT [Ck.s,Ck.s,Ck.i ar] 1) 0 [.s (bQ (aw e d.toNat 0)), .s (bR (bQ (aw e d.toNat 1)) (bc 0) (bY (aw e d.toNat (1+1))).toNat), .i .i64 (bY (aw e d.toNat (1+1)))])else ao else ao else bif iO 0 (bY (aw a d.toNat 0)) ((bQ (aw e d.toNat 1)).size:aA)then bif cJ (f.length+(aE (aT [Ck.s,Ck.s,Ck.i ar] 1) 0 [.s (bQ (aw e d.toNat 0)), .s (bR (bQ (aw e d.toNat 1)) (bc 0) (bY (aw a d.toNat 0)).toNat), .i .i64 (bY (aw a d.toNat 0))]).length) 40 then g1 a (bM (d+1)) e (f++aE (aT [Ck.s,Ck.s,Ck.i ar] 1) 0 [.s (bQ (aw e d.toNat 0)), .s (bR (bQ (aw e d.toNat 1)) (bc 0) (bY (aw a d.toNat 0)).toNat), .i .i64 (bY (aw a d.toNat 0))])else ao else ao else ao else bif decide (0<bY (aw e d.toNat (1+1)))then bif iO 0 (bY (aw e d.toNat (1+1))) ((bQ (aw e d.toNat 1)).size:aA)then bif cJ (f.length+(aE (aT [Ck.s,Ck.s,Ck.i ar] 1) 0 [.s (bQ (aw e d.toNat 0)), .s (bR (bQ (aw e d.toNat 1)) (bc 0) (bY (aw e d.toNat (1+1))).toNat), .i .i64 (bY (aw e d.toNat (1+1)))]).length) 40 then g1 a (bM (d+1)) e (f++aE (aT [Ck.s,Ck.s,Ck.i ar] 1) 0 [.s (bQ (aw e d.toNat 0)), .s (bR (bQ (aw e d.toNat 1)) (bc 0) (bY (aw e d.toNat (1+1))).toNat), .i .i64 (bY (aw e d.toNat (1+1)))])else ao else ao else bif cJ (f.length+(aE (aT [Ck.s,Ck.s,Ck.i ar] 1) 0 [.s (bQ (aw e d.toNat 0)), .s (bR (bQ (aw e d.toNat 1)) (bc 0) (bc 0)), .i .i64 0]).length) 40 then g1 a (bM (d+1)) e (f++aE (aT [Ck.s,Ck.s,Ck.i ar] 1) 0 [.s (bQ (aw e d.toNat 0)), .s (bR (bQ (aw e d.toNat 1)) (bc 0) (bc 0)), .i .i64 0])else ao else ao else k1 a d e f
def l5a(N:aG)(k0:vl R)(k1:ur R):aG->ur R
 |0=>λ_ _ _ _=>ao
 |n+1=>r5a N (λx0 x1 x2=>ao) (l5a N k0 k1 n) k0 k1
def l5(N:aG)(k0:vl R)(k1:ur R):aG->vl R
 |0=>λ_ _ _=>ao
 |n+1=>r5 N (l5 N k0 k1 n) (l5a N k0 k1 n) k0 k1
def b(N:aG)(kr:Mz R)(a d:aX):aD R:=bif fw.c a then bif !fw.v a then kr [] aq else l5 N (λ_ _ _=>kr [] ak) (λ_ _ _ e=>kr e ak) N d 0 a else ao
def vo:=b Lib.c7 λr0 r1=>aj (r0,r1)
def c:=λa d=>(vo a d).isSome
def v:=λa d=>(vo a d).getD ([],aq)
theorem out{x}:∀a d,vo a d=aj x->c a d=ak/\v a d=x:=λ_ _=>Lib.dy
end vD

namespace mL
def b(kr:MA R)(a:aX)(d:au):aD R:=bif jV.c a d then bif decide (jV.v a d<0)then kr ⟨#[]⟩ aq else bif decide (0<=jV.v a d)&&decide (jV.v a d<(a.length:aA))then kr (bQ (aw a (jV.v a d).toNat 1)) ak else ao else ao
def vo:=b λr0 r1=>aj (r0,r1)
def c:=λa d=>(vo a d).isSome
def v:=λa d=>(vo a d).getD (⟨#[]⟩,aq)
theorem out{x}:∀a d,vo a d=aj x->c a d=ak/\v a d=x:=λ_ _=>Lib.dy
end mL

namespace fy
def r6(N:aG)(g k0 k1:uv R)(a:au)(d e f:aA)(h:aY)(i j l:aA):aD R:=bif decide (l<(a.size:aA))then bif decide (l<bM (d+5))then bif decide (0<=l)&&decide (l<(a.size:aA))then bif decide (0<=l)&&decide (l<(a.size:aA))then bif decide ((↑(iH a l.toNat):aA)<128)then bif decide (bM (i+bM (cF (bM (↑(iH a l.toNat):aA)) 128*j))>1000000000)then k0 a d 0 0 aq (bM (i+bM (cF (bM (↑(iH a l.toNat):aA)) 128*j))) (bM (j*128)) l else bif jW.c (bM (i+bM (cF (bM (↑(iH a l.toNat):aA)) 128*j)))then bif iO d (bM (l+1)) (a.size:aA)then bif !List.beq (jW.v (bM (i+bM (cF (bM (↑(iH a l.toNat):aA)) 128*j)))).toList (bR a d.toNat (bM (l+1)).toNat).toList then k0 a d 0 0 aq (bM (i+bM (cF (bM (↑(iH a l.toNat):aA)) 128*j))) (bM (j*128)) l else k0 a d (bM (i+bM (cF (bM (↑(iH a l.toNat):aA)) 128*j))) (bM (l+1)) ak (bM (i+bM (cF (bM (↑(iH a l.toNat):aA)) 128*j))) (bM (j*128)) l else ao else ao else g a d e f h (bM (i+bM (cF (bM (↑(iH a l.toNat):aA)) 128*j))) (bM (j*128)) (bM (l+1))else ao else ao else k1 a d e f h i j l else k1 a d e f h i j l
def l6(N:aG)(k0 k1:uv R):aG->uv R
 |0=>λ_ _ _ _ _ _ _ _=>ao
 |n+1=>r6 N (l6 N k0 k1 n) k0 k1
def b(N:aG)(kr:OA R)(a:au)(d:aA):aD R:=bif !kG.v d 0 (a.size:aA)then kr 0 0 aq else l6 N (λ_ _ e f h _ _ _=>kr e f h) (λ_ _ _ _ _ _ _ _=>kr 0 0 aq) N a d 0 0 aq 0 1 d
def v(dW:au)(iq:aA):aA×aA×aY:=if 0<=iq/\iq<=dW.size then Lib.rv dW iq.toNat 5 0 0 else(0,0,aq)
theorem fI(kr:OA R)(dW:au)(iq:aA)(f0:Gc dW):∃N,b N kr dW iq=kr (v dW iq).1 (v dW iq).2.1 (v dW iq).2.2:=by
 refine⟨6, ?_⟩
 unfold b v;by_cases hn:0<=iq/\iq<=dW.size
 ·have e:kG.v iq 0 (dW.size:aA)=true:=by simp[kG.v,hn]
  obtain⟨a,rfl⟩:∃a:aG,iq=(a:aA):=⟨iq.toNat,by omega⟩
  have ha:a<=dW.size:=by omega
  rw[e,bC hn,Lib.eB];have hs:dW.size<=4611686018427387904:=f0;simp only[ba,aC]
  have:=Lib.ij (λm (s:aG×aA)=>l6 6 (λy8 y9 Mr yE Oj Gf W8 W9=>kr Mr yE Oj) (λTq FN FP Ca tD Gg Gh NX=>kr 0 0 aq) m dW a 0 0 aq s.2 (128^s.1) ((a+s.1:aG):aA)) (λs=>5-s.1) (λs=>s.1<=5/\s.2=Lib.num dW a s.1/\∀i,i<s.1->128<=iH dW (a+i))
   (λs=>kr (Lib.rv dW a (5-s.1) s.1 s.2).1 (Lib.rv dW a (5-s.1) s.1 s.2).2.1 (Lib.rv dW a (5-s.1) s.1 s.2).2.2) (λm s hs5=>by
   obtain⟨j,n⟩:=s
   obtain⟨hj,abA,X4⟩:=hs5
   dsimp only at hj abA X4⊢
   have hb:=Lib.IZ dW (a+j)
   have e5:bM ((a:aA)+5)=((a+5:aG):aA):=by rw[jQ (by omega) (by omega)];omega
   by_cases gO:a+j<dW.size
   ·by_cases hj5:j<5
    ·have eb:bM (iH dW (a+j):aA)=(iH dW (a+j):aA):=jQ (by omega) (by omega);have em:cF (iH dW (a+j):aA) 128=(iH dW (a+j):aA)%128:=rZ (by omega);have hp:(128:aA)^j<=268435456/\(1:aA)<=128^j/\(128:aA)^(j+1)=128^j*128:=by
      obtain rfl|rfl|rfl|rfl|rfl:j=0\/j=1\/j=2\/j=3\/j=4:=by omega
      all_goals decide
     have hrg:=Lib.zY dW j a;rw[<-abA]at hrg;have hm0:0<=(iH dW (a+j):aA)%128/\(iH dW (a+j):aA)%128<=127:=by omega
     have hq:0<=(iH dW (a+j):aA)%128*128^j/\(iH dW (a+j):aA)%128*128^j<=127*128^j:=
      ⟨Int.mul_nonneg hm0.1 (by omega),Int.mul_le_mul_of_nonneg_right hm0.2 (by omega)⟩
     have eq1:bM ((iH dW (a+j):aA)%128*128^j)=(iH dW (a+j):aA)%128*128^j:=jQ (by omega) (by omega);have eq2:bM (n+(iH dW (a+j):aA)%128*128^j)=n+(iH dW (a+j):aA)%128*128^j:=jQ (by omega) (by omega);have eq3:bM ((128:aA)^j*128)=128^(j+1):=by rw[hp.2.2];exact jQ (by omega) (by omega)
     have ef:5-j=(5-(j+1))+1:=by omega
     have U2:n+(iH dW (a+j):aA)%128*128^j=Lib.num dW a (j+1):=by rw[Lib.v8,<-abA]
     have en:bM (((a+j:aG):aA)+1)=((a+(j+1):aG):aA):=Lib.db gO (by omega);have c2:decide (((a+j:aG):aA)<((a+5:aG):aA))=true:=Lib.Qf (by omega)
     have hrv:Lib.rv dW a (5-j) j n=(if(iH dW (a+j):aA)>127 then Lib.rv dW a (5-(j+1)) (j+1) (n+(iH dW (a+j):aA)%128*128^j)
       else if(j>0/\iH dW (a+j)=0)\/n+(iH dW (a+j):aA)%128*128^j>1000000000 then(0,0,aq)
       else(n+(iH dW (a+j):aA)%128*128^j,((a+j+1:aG):aA),ak)):=by
      rw[ef];simp only[Lib.rv];rw[bC gO]
     simp only[l6,r6,Lib.Qf gO,e5,c2,Lib.cR,Lib.eB,eb,em,eq1,eq2,eq3,en,ay,aP];by_cases hc:(iH dW (a+j):aA)<128
     ·left;rw[aJ hc,ay,hrv,bL (by omega)];by_cases E3:n+(iH dW (a+j):aA)%128*128^j>1000000000
      ·rw[aJ E3,bC (.inr E3)];rfl
      ·have ec:jW.c (n+(iH dW (a+j):aA)%128*128^j)=true:=aJ (by omega);have ein:iO (a:aA) ((a+(j+1):aG):aA) (dW.size:aA)=true:=by simp[iO];omega
       rw[aM E3,aC,ec,ay,ein,ay,U2];have amr:=Lib.canon dW j a (by omega) X4 (by omega) (by rw[<-U2];omega);unfold jW.v;rw[amr];by_cases hz:j>0/\iH dW (a+j)=0
       ·rw[aJ hz,bC (.inl hz)];rfl
       ·rw[aM hz,bL (by rw[U2]at E3;omega)];rfl
     ·right;rw[aM hc];refine⟨(j+1,n+(iH dW (a+j):aA)%128*128^j),⟨by dsimp only;omega,U2,λi hi=> ?_⟩,by dsimp only;omega,by dsimp only;rw[hrv,bC (by omega)],rfl⟩
      by_cases M8:i<j
      ·exact X4 i M8
      ·have:i=j:=by dsimp only at hi;omega
       subst this;omega
    ·left;have Lx:j=5:=by omega
     subst Lx;simp only[l6,r6,Lib.Qf gO,e5,Lib.XV (bu (a+5)),ay,aC];rfl
   ·left;have hrv:Lib.rv dW a (5-j) j n=(0,0,aq):=by
     by_cases hj5:j<5
     ·have ef:5-j=(5-(j+1))+1:=by omega
      rw[ef];simp only[Lib.rv];rw[bL gO]
     ·rw[show 5-j=0 by omega];rfl
    simp only[l6,r6,Lib.XV gO,aC,hrv]) 6 (0,0) ⟨by dsimp only;omega,rfl,λi hi=>by dsimp only at hi;omega⟩ (by dsimp only;omega)
  exact this
 ·have e:kG.v iq 0 (dW.size:aA)=false:=by simp[kG.v];omega
  rw[e,bL hn];rfl
end fy

namespace rN
def r5(N:aG)(g k0 k1:ny R)(a:au)(d e:aA)(f:aX):aD R:=bif decide (e<(a.size:aA))then bif !(fy.v a e).2.2 then k0 a e e f else bif decide ((fy.v a e).1>bM (bM ((a.size:aA)-(fy.v a e).2.1)-4))then k0 a e e f else bif iO (bM ((fy.v a e).2.1+4)) (bM (bM ((fy.v a e).2.1+4)+(fy.v a e).1)) (a.size:aA)then bif fP.c (bR a (bM ((fy.v a e).2.1+4)).toNat (bM (bM ((fy.v a e).2.1+4)+(fy.v a e).1)).toNat)then bif !(fP.v (bR a (bM ((fy.v a e).2.1+4)).toNat (bM (bM ((fy.v a e).2.1+4)+(fy.v a e).1)).toNat)).2 then k0 a e e f else bif iO e (bM (bM ((fy.v a e).2.1+4)+(fy.v a e).1)) (a.size:aA)then bif !List.beq (fP.v (bR a (bM ((fy.v a e).2.1+4)).toNat (bM (bM ((fy.v a e).2.1+4)+(fy.v a e).1)).toNat)).1.toList (bR a e.toNat (bM (bM ((fy.v a e).2.1+4)+(fy.v a e).1)).toNat).toList then k0 a e e f else bif cJ (f.length+(aE (aT [.s] 1) 0 [.s (bR a (bM ((fy.v a e).2.1+4)).toNat (bM (bM ((fy.v a e).2.1+4)+(fy.v a e).1)).toNat)]).length) 16 then g a d (bM (bM ((fy.v a e).2.1+4)+(fy.v a e).1)) (f++aE (aT [.s] 1) 0 [.s (bR a (bM ((fy.v a e).2.1+4)).toNat (bM (bM ((fy.v a e).2.1+4)+(fy.v a e).1)).toNat)])else ao else ao else ao else ao else k1 a d e f
def l5(N:aG)(k0 k1:ny R):aG->ny R
 |0=>λ_ _ _ _=>ao
 |n+1=>r5 N (l5 N k0 k1 n) k0 k1
def b(N:aG)(kr:uq R)(a:au):aD R:=bif decide ((a.size:aA)>20000)then kr (aT [.s] 0) 0 else l5 N (λ_ d _ e=>kr e d) (λ_ _ d e=>kr e d) N a 0 0 (aT [.s] 0)
def vo:=b Lib.c7 λr0 r1=>aj (r0,r1)
def c:=λa=>(vo a).isSome
def v:=λa=>(vo a).getD ([],0)
theorem out{x}:∀a,vo a=aj x->c a=ak/\v a=x:=λ_=>Lib.dy
end rN

namespace pM
def b(kr:Kw R)(a:au)(d:aA):aD R:=bif !(fy.v a d).2.2 then kr ⟨#[]⟩ 0 aq else bif decide ((fy.v a d).1>20000)then kr ⟨#[]⟩ 0 aq else bif decide ((fy.v a d).1>bM ((a.size:aA)-(fy.v a d).2.1))then kr ⟨#[]⟩ 0 aq else bif iO (fy.v a d).2.1 (bM ((fy.v a d).2.1+(fy.v a d).1)) (a.size:aA)then kr (bR a (fy.v a d).2.1.toNat (bM ((fy.v a d).2.1+(fy.v a d).1)).toNat) (bM ((fy.v a d).2.1+(fy.v a d).1)) ak else ao
def v(dW:au)(iq:aA):au×aA×aY:=Lib.iB dW iq
theorem fI(kr:Kw R)(dW:au)(iq:aA)(f0:Gc dW):b kr dW iq=kr (v dW iq).1 (v dW iq).2.1 (v dW iq).2.2:=Lib.CK f0 iq kr
end pM

namespace jJ
def b(kr:zE R)(a:au):aD R:=bif !(pM.v a 0).2.2 then kr ⟨#[]⟩ 0 0 ⟨#[]⟩ aq else bif !(fy.v a (pM.v a 0).2.1).2.2 then kr ⟨#[]⟩ 0 0 ⟨#[]⟩ aq else bif !(fy.v a (fy.v a (pM.v a 0).2.1).2.1).2.2 then kr ⟨#[]⟩ 0 0 ⟨#[]⟩ aq else bif iO (fy.v a (fy.v a (pM.v a 0).2.1).2.1).2.1 (a.size:aA) (a.size:aA)then bif !(jN.v (pM.v a 0).1 (fy.v a (pM.v a 0).2.1).1 (fy.v a (fy.v a (pM.v a 0).2.1).2.1).1 (bR a (fy.v a (fy.v a (pM.v a 0).2.1).2.1).2.1.toNat (a.size:aA).toNat)).2 then kr ⟨#[]⟩ 0 0 ⟨#[]⟩ aq else bif !List.beq (jN.v (pM.v a 0).1 (fy.v a (pM.v a 0).2.1).1 (fy.v a (fy.v a (pM.v a 0).2.1).2.1).1 (bR a (fy.v a (fy.v a (pM.v a 0).2.1).2.1).2.1.toNat (a.size:aA).toNat)).1.toList (aL a)then kr ⟨#[]⟩ 0 0 ⟨#[]⟩ aq else kr (pM.v a 0).1 (fy.v a (pM.v a 0).2.1).1 (fy.v a (fy.v a (pM.v a 0).2.1).2.1).1 (bR a (fy.v a (fy.v a (pM.v a 0).2.1).2.1).2.1.toNat (a.size:aA).toNat) ak else ao
def no:au×aA×aA×au×aY:=(⟨#[]⟩,0,0,⟨#[]⟩,aq)
def v(t0:au):au×aA×aA×au×aY:=
 match Lib.iB t0 0 with
 |(k,a,ak)=>(match Lib.er t0 a with
  |(s,x,ak)=>(match Lib.er t0 x with
   |(l,y,ak)=>if iL.v k s l (t0.extract y.toNat t0.size)=ak then(k,s,l,t0.extract y.toNat t0.size,ak)else no
   |_=>no)
  |_=>no)
 |_=>no
theorem fI(kr:zE R)(t0:au)(f0:Gc t0):b kr t0=kr (v t0).1 (v t0).2.1 (v t0).2.2.1 (v t0).2.2.2.1 (v t0).2.2.2.2:=by
 have e1:pM.v=Lib.iB:=rfl;have e2:fy.v=Lib.er:=rfl;unfold b v;simp only[e1,e2,Lib.eB];cases h1:Lib.iB t0 0 with
 |mk k r1=>
  obtain⟨a,ok1⟩:=r1;cases ok1 with
  |false=>rfl
  |true=>
   dsimp only;cases h2:Lib.er t0 a with
   |mk s r2=>
    obtain⟨x,ok2⟩:=r2;cases ok2 with
    |false=>rfl
    |true=>
     dsimp only;cases h3:Lib.er t0 x with
     |mk l r3=>
      obtain⟨y,ok3⟩:=r3;cases ok3 with
      |false=>rfl
      |true=>
       obtain⟨p1,p2,p3,p4,p5⟩:=Lib.Fw h1;obtain⟨q1,q2,q3,q4,q5,q6⟩:=Lib.kh h2;obtain⟨r1,r2,r3,r4,r5,r6⟩:=Lib.kh h3;dsimp only;simp only[ba,aC];rw[Lib.yN (show iO y (t0.size:aA) (t0.size:aA)=ak by simp[iO];omega)];unfold jN.v;cases hE:iL.v k s l (t0.extract y.toNat t0.size)with
       |false=>rfl
       |true=>
        have ht:jN.rV k s l (t0.extract y.toNat t0.size)=t0:=by unfold jN.rV;rw[p5,q6,Lib.vN t0 (by omega) (by omega),r6,Lib.vN t0 (by omega) (by omega),Lib.vN t0 (by omega) (by omega)];exact Lib.Le t0
        simp only[if_true,ba,aC,ht,Lib.qg]
end jJ

namespace rK
def r7(N:aG)(g k0:CT R)(a:aA)(d e:aX):aD R:=bif decide (a<(e.length:aA))then bif decide (0<=a)&&decide (a<(e.length:aA))then bif(jJ.v (bQ (aw e a.toNat 0))).2.2.2.2 then bif fH.c d (jJ.v (bQ (aw e a.toNat 0))).1 (jJ.v (bQ (aw e a.toNat 0))).2.1 (jJ.v (bQ (aw e a.toNat 0))).2.2.1 (jJ.v (bQ (aw e a.toNat 0))).2.2.2.1 then g (bM (a+1)) (fH.v d (jJ.v (bQ (aw e a.toNat 0))).1 (jJ.v (bQ (aw e a.toNat 0))).2.1 (jJ.v (bQ (aw e a.toNat 0))).2.2.1 (jJ.v (bQ (aw e a.toNat 0))).2.2.2.1) e else ao else g (bM (a+1)) d e else ao else k0 a d e
def l7(N:aG)(k0:CT R):aG->CT R
 |0=>λ_ _ _=>ao
 |n+1=>r7 N (l7 N k0 n) k0
def b(N:aG)(kr:aX->aD R)(a:aX):aD R:=bif fw.c a then bif !fw.v a then kr (aT [Ck.s,Ck.i ar,Ck.i ar,Ck.s] 0)else bif mL.c a {data:= #[ax 107,ax 101,ax 112,ax 116]}then bif rN.c (mL.v a {data:= #[ax 107,ax 101,ax 112,ax 116]}).1 then l7 N (λ_ d _=>kr d) N 0 (aT [Ck.s,Ck.i ar,Ck.i ar,Ck.s] 0) (rN.v (mL.v a {data:= #[ax 107,ax 101,ax 112,ax 116]}).1).1 else ao else ao else ao
def vo:=b Lib.c7 λr0=>aj r0
def c:=λa=>(vo a).isSome
def v:=λa=>(vo a).getD ([])
theorem out{x}:∀a,vo a=aj x->c a=ak/\v a=x:=λ_=>Lib.dy
end rK

namespace mB
def r9(N:aG)(g:zC R)(k0:Gl R)(k1:zC R)(a:aX)(d:aY)(e:au)(f:aA)(h:aX):aD R:=bif decide (f<(a.length:aA))then bif decide (0<=f)&&decide (f<(a.length:aA))then bif fP.c (jN.v (bQ (aw a f.toNat 0)) (bY (aw a f.toNat 1)) (bY (aw a f.toNat (1+1))) (bQ (aw a f.toNat (1+1+1)))).1 then bif !(jN.v (bQ (aw a f.toNat 0)) (bY (aw a f.toNat 1)) (bY (aw a f.toNat (1+1))) (bQ (aw a f.toNat (1+1+1)))).2 then k0 a aq e f (aT [Ck.i ar,Ck.s,Ck.s,Ck.s] 0) h else bif !(fP.v (jN.v (bQ (aw a f.toNat 0)) (bY (aw a f.toNat 1)) (bY (aw a f.toNat (1+1))) (bQ (aw a f.toNat (1+1+1)))).1).2 then k0 a aq e f (aT [Ck.i ar,Ck.s,Ck.s,Ck.s] 0) h else bif decide (e.size+(fP.v (jN.v (bQ (aw a f.toNat 0)) (bY (aw a f.toNat 1)) (bY (aw a f.toNat (1+1))) (bQ (aw a f.toNat (1+1+1)))).1).1.size<=4611686018427387904)then g a d (e++(fP.v (jN.v (bQ (aw a f.toNat 0)) (bY (aw a f.toNat 1)) (bY (aw a f.toNat (1+1))) (bQ (aw a f.toNat (1+1+1)))).1).1) (bM (f+1)) h else ao else ao else ao else k1 a d e f h
def l9(N:aG)(k0:Gl R)(k1:zC R):aG->zC R
 |0=>λ_ _ _ _ _=>ao
 |n+1=>r9 N (l9 N k0 k1 n) k0 k1
def b(N:aG)(kr:Mz R)(a d:aX):aD R:=bif fw.c a then bif !fw.v a then kr (aT [Ck.i ar,Ck.s,Ck.s,Ck.s] 0) aq else bif mL.c a {data:= #[ax 110,ax 101,ax 119]}then bif(mL.v a {data:= #[ax 110,ax 101,ax 119]}).2 then l9 N (λ_ e _ _ f _=>kr f e) (λ_ _ e _ f=>bif cJ (f.length+(aE (aE (aE (aT [Ck.i ar,Ck.s,Ck.s,Ck.s] 3) 0 [.i .i64 1, .s {data:= #[ax 110,ax 101,ax 119]}, .s e, .s ⟨#[]⟩]) 1 [.i .i64 2, .s {data:= #[ax 110,ax 101,ax 119]}, .s ⟨#[]⟩, .s ⟨#[]⟩]) 2 [.i .i64 3, .s {data:= #[ax 110,ax 101,ax 119]}, .s ⟨#[]⟩, .s {data:= #[ax 107,ax 101,ax 112,ax 116]}]).length) 56 then kr (f++aE (aE (aE (aT [Ck.i ar,Ck.s,Ck.s,Ck.s] 3) 0 [.i .i64 1, .s {data:= #[ax 110,ax 101,ax 119]}, .s e, .s ⟨#[]⟩]) 1 [.i .i64 2, .s {data:= #[ax 110,ax 101,ax 119]}, .s ⟨#[]⟩, .s ⟨#[]⟩]) 2 [.i .i64 3, .s {data:= #[ax 110,ax 101,ax 119]}, .s ⟨#[]⟩, .s {data:= #[ax 107,ax 101,ax 112,ax 116]}]) ak else ao) N d aq ⟨#[]⟩ 0 (aT [Ck.i ar,Ck.s,Ck.s,Ck.s] 0++aE (aT [Ck.i ar,Ck.s,Ck.s,Ck.s] 1) 0 [.i .i64 4, .s {data:= #[ax 110,ax 101,ax 119]}, .s ⟨#[]⟩, .s ⟨#[]⟩])else l9 N (λ_ e _ _ f _=>kr f e) (λ_ _ e _ f=>bif cJ (f.length+(aE (aE (aE (aT [Ck.i ar,Ck.s,Ck.s,Ck.s] 3) 0 [.i .i64 1, .s {data:= #[ax 110,ax 101,ax 119]}, .s e, .s ⟨#[]⟩]) 1 [.i .i64 2, .s {data:= #[ax 110,ax 101,ax 119]}, .s ⟨#[]⟩, .s ⟨#[]⟩]) 2 [.i .i64 3, .s {data:= #[ax 110,ax 101,ax 119]}, .s ⟨#[]⟩, .s {data:= #[ax 107,ax 101,ax 112,ax 116]}]).length) 56 then kr (f++aE (aE (aE (aT [Ck.i ar,Ck.s,Ck.s,Ck.s] 3) 0 [.i .i64 1, .s {data:= #[ax 110,ax 101,ax 119]}, .s e, .s ⟨#[]⟩]) 1 [.i .i64 2, .s {data:= #[ax 110,ax 101,ax 119]}, .s ⟨#[]⟩, .s ⟨#[]⟩]) 2 [.i .i64 3, .s {data:= #[ax 110,ax 101,ax 119]}, .s ⟨#[]⟩, .s {data:= #[ax 107,ax 101,ax 112,ax 116]}]) ak else ao) N d aq ⟨#[]⟩ 0 (aT [Ck.i ar,Ck.s,Ck.s,Ck.s] 0)else ao else ao
def vo:=b Lib.c7 λr0 r1=>aj (r0,r1)
def c:=λa d=>(vo a d).isSome
def v:=λa d=>(vo a d).getD ([],aq)
theorem out{x}:∀a d,vo a d=aj x->c a d=ak/\v a d=x:=λ_ _=>Lib.dy
end mB

namespace m_
def r4(N:aG)(g k0:mf R)(a:aA)(d:aX)(e f h i j l m:aA)(o p q r s t:aX):aD R:=bif decide (e<(d.length:aA))then bif decide (0<=e)&&decide (e<(d.length:aA))then bif iL.v (bQ (aw d e.toNat 0)) (bY (aw d e.toNat 1)) (bY (aw d e.toNat (1+1))) (bQ (aw d e.toNat (1+1+1)))then bif decide (0<=e)&&decide (e<(d.length:aA))then bif EF.v (bQ (aw d e.toNat 0)) (bY (aw d e.toNat 1)) (bY (aw d e.toNat (1+1))) (bQ (aw d e.toNat (1+1+1))) a then bif decide (0<=e)&&decide (e<(d.length:aA))then bif xN.c j o p q r l s t m (bQ (aw d e.toNat 0)) (bY (aw d e.toNat 1)) (bY (aw d e.toNat (1+1))) (bQ (aw d e.toNat (1+1+1)))then Lib.lt (xN.v j o p q r l s t m (bQ (aw d e.toNat 0)) (bY (aw d e.toNat 1)) (bY (aw d e.toNat (1+1))) (bQ (aw d e.toNat (1+1+1)))) λu=>g a d (bM (e+1)) f h i u.1 u.2.2.2.2.2.1 u.2.2.2.2.2.2.2.2 u.2.1 u.2.2.1 u.2.2.2.1 u.2.2.2.2.1 u.2.2.2.2.2.2.1 u.2.2.2.2.2.2.2.1 else ao else ao else g a d (bM (e+1)) f h i j l m o p q r s t else ao else g a d (bM (e+1)) f h i j l m o p q r s t else ao else k0 a d e f h i j l m o p q r s t
def l4(N:aG)(k0:mf R):aG->mf R
 |0=>λ_ _ _ _ _ _ _ _ _ _ _ _ _ _ _=>ao
 |n+1=>r4 N (l4 N k0 n) k0
def b(N:aG)(kr:eJ R)(a:aA)(d:aX):aD R:=l4 N (λ_ _ _ _ _ _ e f h i j l m o p=>kr e i j l m f o p h) N a d 0 0 0 0 a 0 0 [] [] [] ([]++aE (aT [Ck.l 3] 1) 0 [CV.l 3 (aT [Ck.i ar] (bc 16))]++aE (aT [Ck.l 3] 1) 0 [CV.l 3 (aT [Ck.i ar] (bc 16))]++aE (aT [Ck.l 3] 1) 0 [CV.l 3 (aT [Ck.i ar] (bc 16))]) [] []
def vo:=b Lib.c7 λr0 r1 r2 r3 r4 r5 r6 r7 r8=>aj (r0,r1,r2,r3,r4,r5,r6,r7,r8)
def c:=λa d=>(vo a d).isSome
def v:=λa d=>(vo a d).getD (0,[],[],[],[],0,[],[],0)
theorem out{x}:∀a d,vo a d=aj x->c a d=ak/\v a d=x:=λ_ _=>Lib.dy
end m_

namespace vB
def r7(N:aG)(g g1 k0 k1:g9 R)(a d e f:aA)(h i j l m o p q r s t:aX):aD R:=bif decide (a<(h.length:aA))then bif decide (0<=a)&&decide (a<(h.length:aA))then bif EF.v (bQ (aw h a.toNat 0)) (bY (aw h a.toNat 1)) (bY (aw h a.toNat (1+1))) (bQ (aw h a.toNat (1+1+1))) d then bif decide (0<=a)&&decide (a<(h.length:aA))then bif cJ (i.length+(aE (aT [Ck.s,Ck.i ar,Ck.i ar,Ck.s] 1) 0 [.s (bQ (aw h a.toNat 0)), .i .i64 (bY (aw h a.toNat 1)), .i .i64 (bY (aw h a.toNat (1+1))), .s (bQ (aw h a.toNat (1+1+1)))]).length) 48 then g (bM (a+1)) d e f h (i++aE (aT [Ck.s,Ck.i ar,Ck.i ar,Ck.s] 1) 0 [.s (bQ (aw h a.toNat 0)), .i .i64 (bY (aw h a.toNat 1)), .i .i64 (bY (aw h a.toNat (1+1))), .s (bQ (aw h a.toNat (1+1+1)))]) j l m o p q r s t else ao else ao else g (bM (a+1)) d e f h i j l m o p q r s t else ao else k0 a d e f h i j l m o p q r s t
def r7a(N:aG)(g g1 k0 k1:g9 R)(a d e f:aA)(h i j l m o p q r s t:aX):aD R:=bif decide (a<(h.length:aA))then bif decide (0<=a)&&decide (a<(h.length:aA))then bif EF.v (bQ (aw h a.toNat 0)) (bY (aw h a.toNat 1)) (bY (aw h a.toNat (1+1))) (bQ (aw h a.toNat (1+1+1))) d then bif decide (0<=a)&&decide (a<(h.length:aA))then bif cJ (i.length+(aE (aT [Ck.s,Ck.i ar,Ck.i ar,Ck.s] 1) 0 [.s (bQ (aw h a.toNat 0)), .i .i64 (bY (aw h a.toNat 1)), .i .i64 (bY (aw h a.toNat (1+1))), .s (bQ (aw h a.toNat (1+1+1)))]).length) 48 then g1 (bM (a+1)) d e f h (i++aE (aT [Ck.s,Ck.i ar,Ck.i ar,Ck.s] 1) 0 [.s (bQ (aw h a.toNat 0)), .i .i64 (bY (aw h a.toNat 1)), .i .i64 (bY (aw h a.toNat (1+1))), .s (bQ (aw h a.toNat (1+1+1)))]) j l m o p q r s t else ao else ao else g1 (bM (a+1)) d e f h i j l m o p q r s t else ao else k1 a d e f h i j l m o p q r s t
def l7a(N:aG)(k0 k1:g9 R):aG->g9 R
 |0=>λ_ _ _ _ _ _ _ _ _ _ _ _ _ _ _=>ao
 |n+1=>r7a N (λx2 x3 x4 x5 x6 x7 x8 x9 x10 x11 Kp x13 x14 x15 x16=>ao) (l7a N k0 k1 n) k0 k1
def l7(N:aG)(k0 k1:g9 R):aG->g9 R
 |0=>λ_ _ _ _ _ _ _ _ _ _ _ _ _ _ _=>ao
 |n+1=>r7 N (l7 N k0 k1 n) (l7a N k0 k1 n) k0 k1
def b(N:aG)(kr:oz R)(a:aA)(d e f h:aX)(i:aA)(j l:aX)(m:aA)(o p q:aX)(r s:aA)(t:au)(u:aA)(w:aX):aD R:=bif vD.c o w then Lib.lt (vD.v o w) λy=>bif y.2 then bif rK.c y.1 then Lib.lt (rK.v y.1) λz=>l7 N (λ_ α _ _ _ xa _ _ _ _ _ _ xb xc xd=>bif mB.c xb xa then Lib.lt (mB.v xb xa) λxe=>bif xe.2 then bif pN.c xb xe.1 then Lib.lt (pN.v xb xe.1) λxf=>bif m_.c α xa then Lib.lt (m_.v α xa) λxg=>kr xg.1 xg.2.1 xg.2.2.1 xg.2.2.2.1 xg.2.2.2.2.1 xg.2.2.2.2.2.1 xg.2.2.2.2.2.2.1 xg.2.2.2.2.2.2.2.1 xg.2.2.2.2.2.2.2.2 xf.1 xc xd else ao else ao else bif m_.c α xa then Lib.lt (m_.v α xa) λxf=>kr xf.1 xf.2.1 xf.2.2.1 xf.2.2.2.1 xf.2.2.2.2.1 xf.2.2.2.2.2.1 xf.2.2.2.2.2.2.1 xf.2.2.2.2.2.2.2.1 xf.2.2.2.2.2.2.2.2 xb xc xd else ao else ao) (λ_ α _ _ _ xa _ _ _ _ _ _ xb xc xd=>bif mB.c xb xa then Lib.lt (mB.v xb xa) λxe=>bif xe.2 then bif pN.c xb xe.1 then Lib.lt (pN.v xb xe.1) λxf=>bif m_.c α xa then Lib.lt (m_.v α xa) λxg=>kr xg.1 xg.2.1 xg.2.2.1 xg.2.2.2.1 xg.2.2.2.2.1 xg.2.2.2.2.2.1 xg.2.2.2.2.2.2.1 xg.2.2.2.2.2.2.2.1 xg.2.2.2.2.2.2.2.2 xf.1 xc xd else ao else ao else bif m_.c α xa then Lib.lt (m_.v α xa) λxf=>kr xf.1 xf.2.1 xf.2.2.1 xf.2.2.2.1 xf.2.2.2.2.1 xf.2.2.2.2.2.1 xf.2.2.2.2.2.2.1 xf.2.2.2.2.2.2.2.1 xf.2.2.2.2.2.2.2.2 xb xc xd else ao else ao) N 0 a i m z (aT [Ck.s,Ck.i ar,Ck.i ar,Ck.s] 0) d e f h j l y.1 p q else ao else bif rK.c o then Lib.lt (rK.v o) λz=>l7a N (λ_ α _ _ _ xa _ _ _ _ _ _ xb xc xd=>bif mB.c xb xa then Lib.lt (mB.v xb xa) λxe=>bif xe.2 then bif pN.c xb xe.1 then Lib.lt (pN.v xb xe.1) λxf=>bif m_.c α xa then Lib.lt (m_.v α xa) λxg=>kr xg.1 xg.2.1 xg.2.2.1 xg.2.2.2.1 xg.2.2.2.2.1 xg.2.2.2.2.2.1 xg.2.2.2.2.2.2.1 xg.2.2.2.2.2.2.2.1 xg.2.2.2.2.2.2.2.2 xf.1 xc xd else ao else ao else bif m_.c α xa then Lib.lt (m_.v α xa) λxf=>kr xf.1 xf.2.1 xf.2.2.1 xf.2.2.2.1 xf.2.2.2.2.1 xf.2.2.2.2.2.1 xf.2.2.2.2.2.2.1 xf.2.2.2.2.2.2.2.1 xf.2.2.2.2.2.2.2.2 xb xc xd else ao else ao) (λ_ α _ _ _ xa _ _ _ _ _ _ xb xc xd=>bif mB.c xb xa then Lib.lt (mB.v xb xa) λxe=>bif xe.2 then bif pN.c xb xe.1 then Lib.lt (pN.v xb xe.1) λxf=>bif m_.c α xa then Lib.lt (m_.v α xa) λxg=>kr xg.1 xg.2.1 xg.2.2.1 xg.2.2.2.1 xg.2.2.2.2.1 xg.2.2.2.2.2.1 xg.2.2.2.2.2.2.1 xg.2.2.2.2.2.2.2.1 xg.2.2.2.2.2.2.2.2 xf.1 xc xd else ao else ao else bif m_.c α xa then Lib.lt (m_.v α xa) λxf=>kr xf.1 xf.2.1 xf.2.2.1 xf.2.2.2.1 xf.2.2.2.2.1 xf.2.2.2.2.2.1 xf.2.2.2.2.2.2.1 xf.2.2.2.2.2.2.2.1 xf.2.2.2.2.2.2.2.2 xb xc xd else ao else ao) N 0 a i m z (aT [Ck.s,Ck.i ar,Ck.i ar,Ck.s] 0) d e f h j l o p q else ao else ao
def vo:=b Lib.c7 λr0 r1 r2 r3 r4 r5 r6 r7 r8 r9 R7 z5=>aj (r0,r1,r2,r3,r4,r5,r6,r7,r8,r9,R7,z5)
def c:=λa d e f h i j l m o p q r s t u w=>(vo a d e f h i j l m o p q r s t u w).isSome
def v:=λa d e f h i j l m o p q r s t u w=>(vo a d e f h i j l m o p q r s t u w).getD (0,[],[],[],[],0,[],[],0,[],[],[])
theorem out{x}:∀a d e f h i j l m o p q r s t u w,vo a d e f h i j l m o p q r s t u w=aj x->c a d e f h i j l m o p q r s t u w=ak/\v a d e f h i j l m o p q r s t u w=x:=λ_ _ _ _ _ _ _ _ _ _ _ _ _ _ _ _ _=>Lib.dy
end vB

namespace Cj
def b(kr:ru R)(a:aA)(d e f h:aX)(i:aA)(j l:aX)(m:aA)(o p q:aX)(r s:aA)(t:au)(u:aA)(w:aX):aD R:=bif decide (r=1)then bif U9.c a d e f h i j l m s t then Lib.lt (U9.v a d e f h i j l m s t) λy=>kr y.2.2.2.2.2.2.2.2.2 y.1 y.2.1 y.2.2.1 y.2.2.2.1 y.2.2.2.2.1 y.2.2.2.2.2.1 y.2.2.2.2.2.2.1 y.2.2.2.2.2.2.2.1 y.2.2.2.2.2.2.2.2.1 o p q else ao else bif decide (r=2)then bif TJ.c a d e f h i j l m s t then Lib.lt (TJ.v a d e f h i j l m s t) λy=>kr (zo.v y.2.2.2.2.2.2.2.2.2) y.1 y.2.1 y.2.2.1 y.2.2.2.1 y.2.2.2.2.1 y.2.2.2.2.2.1 y.2.2.2.2.2.2.1 y.2.2.2.2.2.2.2.1 y.2.2.2.2.2.2.2.2.1 o p q else ao else bif decide (r=3)then bif Cm.c a d e f h i j l m o p q r s t u w then Lib.lt (Cm.v a d e f h i j l m o p q r s t u w) λy=>kr y.1 y.2.1 y.2.2.1 y.2.2.2.1 y.2.2.2.2.1 y.2.2.2.2.2.1 y.2.2.2.2.2.2.1 y.2.2.2.2.2.2.2.1 y.2.2.2.2.2.2.2.2.1 y.2.2.2.2.2.2.2.2.2.1 y.2.2.2.2.2.2.2.2.2.2.1 y.2.2.2.2.2.2.2.2.2.2.2.1 y.2.2.2.2.2.2.2.2.2.2.2.2 else ao else bif decide (r=4)then bif TL.c a d e f h i j l m s then Lib.lt (TL.v a d e f h i j l m s) λy=>kr (zo.v y.2.2.2.2.2.2.2.2.2) y.1 y.2.1 y.2.2.1 y.2.2.2.1 y.2.2.2.2.1 y.2.2.2.2.2.1 y.2.2.2.2.2.2.1 y.2.2.2.2.2.2.2.1 y.2.2.2.2.2.2.2.2.1 o p q else ao else bif decide (r=5)then bif IL.c a d e f h i j l m u then Lib.lt (IL.v a d e f h i j l m u) λy=>kr 0 y.1 y.2.1 y.2.2.1 y.2.2.2.1 y.2.2.2.2.1 y.2.2.2.2.2.1 y.2.2.2.2.2.2.1 y.2.2.2.2.2.2.2.1 y.2.2.2.2.2.2.2.2 o p q else ao else bif decide (r=6)then bif Gw.c a d e f h i j l m s then Lib.lt (Gw.v a d e f h i j l m s) λy=>kr (zo.v (decide ((y.2.2.2.2.2.2.2.1.length:aA)<(l.length:aA)))) y.1 y.2.1 y.2.2.1 y.2.2.2.1 y.2.2.2.2.1 y.2.2.2.2.2.1 y.2.2.2.2.2.2.1 y.2.2.2.2.2.2.2.1 y.2.2.2.2.2.2.2.2 o p q else ao else bif decide (r=7)then bif vB.c a d e f h i j l m o p q r s t u w then Lib.lt (vB.v a d e f h i j l m o p q r s t u w) λy=>kr 0 y.1 y.2.1 y.2.2.1 y.2.2.2.1 y.2.2.2.2.1 y.2.2.2.2.2.1 y.2.2.2.2.2.2.1 y.2.2.2.2.2.2.2.1 y.2.2.2.2.2.2.2.2.1 y.2.2.2.2.2.2.2.2.2.1 y.2.2.2.2.2.2.2.2.2.2.1 y.2.2.2.2.2.2.2.2.2.2.2 else ao else kr 0 a d e f h i j l m o p q
def vo:=b λr0 r1 r2 r3 r4 r5 r6 r7 r8 r9 R7 z5 r12=>aj (r0,r1,r2,r3,r4,r5,r6,r7,r8,r9,R7,z5,r12)
def c:=λa d e f h i j l m o p q r s t u w=>(vo a d e f h i j l m o p q r s t u w).isSome
def v:=λa d e f h i j l m o p q r s t u w=>(vo a d e f h i j l m o p q r s t u w).getD (0,0,[],[],[],[],0,[],[],0,[],[],[])
theorem out{x}:∀a d e f h i j l m o p q r s t u w,vo a d e f h i j l m o p q r s t u w=aj x->c a d e f h i j l m o p q r s t u w=ak/\v a d e f h i j l m o p q r s t u w=x:=λ_ _ _ _ _ _ _ _ _ _ _ _ _ _ _ _ _=>Lib.dy
end Cj

namespace xO
def b(kr:oz R)(a:aA)(d e f h:aX)(i:aA)(j l:aX)(m:aA)(o p q:aX)(r s:aA)(t:au)(u:aA)(w:aX):aD R:=bif Cj.c a d e f h i j l m o p q r s t u w then Lib.lt (Cj.v a d e f h i j l m o p q r s t u w) λy=>bif cJ ((aT [Ck.i ar] 0).length+y.2.2.2.2.2.2.2.2.2.2.2.1.length) 8 then bif cJ ((aT [Ck.i ar] 0++y.2.2.2.2.2.2.2.2.2.2.2.1).length+(aE (aT [Ck.i ar] 1) 0 [.i .i64 y.1]).length) 8 then kr y.2.1 y.2.2.1 y.2.2.2.1 y.2.2.2.2.1 y.2.2.2.2.2.1 y.2.2.2.2.2.2.1 y.2.2.2.2.2.2.2.1 y.2.2.2.2.2.2.2.2.1 y.2.2.2.2.2.2.2.2.2.1 y.2.2.2.2.2.2.2.2.2.2.1 (aT [Ck.i ar] 0++y.2.2.2.2.2.2.2.2.2.2.2.1++aE (aT [Ck.i ar] 1) 0 [.i .i64 y.1]) y.2.2.2.2.2.2.2.2.2.2.2.2 else ao else ao else ao
def vo:=b λr0 r1 r2 r3 r4 r5 r6 r7 r8 r9 R7 z5=>aj (r0,r1,r2,r3,r4,r5,r6,r7,r8,r9,R7,z5)
def c:=λa d e f h i j l m o p q r s t u w=>(vo a d e f h i j l m o p q r s t u w).isSome
def v:=λa d e f h i j l m o p q r s t u w=>(vo a d e f h i j l m o p q r s t u w).getD (0,[],[],[],[],0,[],[],0,[],[],[])
theorem out{x}:∀a d e f h i j l m o p q r s t u w,vo a d e f h i j l m o p q r s t u w=aj x->c a d e f h i j l m o p q r s t u w=ak/\v a d e f h i j l m o p q r s t u w=x:=λ_ _ _ _ _ _ _ _ _ _ _ _ _ _ _ _ _=>Lib.dy
end xO

namespace Ij
def r3(N:aG)(g k0:jM R)(a:aA)(d:aX)(e f h i j l m o:aA)(p q r s t u w y z:aX):aD R:=bif gJ.c d e f 30 then Lib.lt (gJ.v d e f 30) λα=>bif decide (a<α.1)then bif uJ.c α.2.1 α.2.2.1 α.2.2.2 l p q r s m t u o w y z then Lib.lt (uJ.v α.2.1 α.2.2.1 α.2.2.2 l p q r s m t u o w y z) λxa=>bif xO.c l xa.2.2.2.2.2.2.2.2.1 xa.2.2.2.2.2.2.2.2.2.1 xa.2.2.2.2.2.2.2.2.2.2.1 xa.2.2.2.2.2.2.2.2.2.2.2.1 m xa.2.2.2.2.2.2.2.2.2.2.2.2.1 xa.2.2.2.2.2.2.2.2.2.2.2.2.2.1 o xa.2.2.2.2.2.2.2.2.2.2.2.2.2.2.1 xa.2.2.2.2.2.2.2.2.2.2.2.2.2.2.2.1 xa.2.2.2.2.2.2.2.2.2.2.2.2.2.2.2.2 xa.1 xa.2.1 xa.2.2.1 xa.2.2.2.1 xa.2.2.2.2.1 then Lib.lt (xO.v l xa.2.2.2.2.2.2.2.2.1 xa.2.2.2.2.2.2.2.2.2.1 xa.2.2.2.2.2.2.2.2.2.2.1 xa.2.2.2.2.2.2.2.2.2.2.2.1 m xa.2.2.2.2.2.2.2.2.2.2.2.2.1 xa.2.2.2.2.2.2.2.2.2.2.2.2.2.1 o xa.2.2.2.2.2.2.2.2.2.2.2.2.2.2.1 xa.2.2.2.2.2.2.2.2.2.2.2.2.2.2.2.1 xa.2.2.2.2.2.2.2.2.2.2.2.2.2.2.2.2 xa.1 xa.2.1 xa.2.2.1 xa.2.2.2.1 xa.2.2.2.2.1) λxb=>g (bM (a+1)) xa.2.2.2.2.2.1 xa.2.2.2.2.2.2.1 xa.2.2.2.2.2.2.2.1 h i j xb.1 xb.2.2.2.2.2.1 xb.2.2.2.2.2.2.2.2.1 xb.2.1 xb.2.2.1 xb.2.2.2.1 xb.2.2.2.2.1 xb.2.2.2.2.2.2.1 xb.2.2.2.2.2.2.2.1 xb.2.2.2.2.2.2.2.2.2.1 xb.2.2.2.2.2.2.2.2.2.2.1 xb.2.2.2.2.2.2.2.2.2.2.2 else ao else ao else k0 a α.2.1 α.2.2.1 α.2.2.2 h i j l m o p q r s t u w y z else ao
def l3(N:aG)(k0:jM R):aG->jM R
 |0=>λ_ _ _ _ _ _ _ _ _ _ _ _ _ _ _ _ _ _ _=>ao
 |n+1=>r3 N (l3 N k0 n) k0
def b(N:aG)(kr:Aj R)(a:aX)(d e:aA):aD R:=l3 N (λ_ f h i _ _ _ j l m o p q r s t _ _ _=>kr j o p q r l s t m f h i) N 0 a d e 0 0 0 1 0 0 [] [] [] ([]++aE (aT [Ck.l 3] 1) 0 [CV.l 3 (aT [Ck.i ar] (bc 16))]++aE (aT [Ck.l 3] 1) 0 [CV.l 3 (aT [Ck.i ar] (bc 16))]++aE (aT [Ck.l 3] 1) 0 [CV.l 3 (aT [Ck.i ar] (bc 16))]) [] [] [] [] []
def vo:=b Lib.c7 λr0 r1 r2 r3 r4 r5 r6 r7 r8 r9 R7 z5=>aj (r0,r1,r2,r3,r4,r5,r6,r7,r8,r9,R7,z5)
def c:=λa d e=>(vo a d e).isSome
def v:=λa d e=>(vo a d e).getD (0,[],[],[],[],0,[],[],0,[],0,0)
theorem out{x}:∀a d e,vo a d e=aj x->c a d e=ak/\v a d e=x:=λ_ _ _=>Lib.dy
end Ij

namespace B5
def b(kr:eJ R)(a:aX):aD R:=bif IU.c a then Lib.lt (IU.v a) λd=>bif Ij.c d.1 d.2.1 d.2.2 then Lib.lt (Ij.v d.1 d.2.1 d.2.2) λe=>kr e.1 e.2.1 e.2.2.1 e.2.2.2.1 e.2.2.2.2.1 e.2.2.2.2.2.1 e.2.2.2.2.2.2.1 e.2.2.2.2.2.2.2.1 e.2.2.2.2.2.2.2.2.1 else ao else ao
def vo:=b λr0 r1 r2 r3 r4 r5 r6 r7 r8=>aj (r0,r1,r2,r3,r4,r5,r6,r7,r8)
def c:=λa=>(vo a).isSome
def v:=λa=>(vo a).getD (0,[],[],[],[],0,[],[],0)
theorem out{x}:∀a,vo a=aj x->c a=ak/\v a=x:=λ_=>Lib.dy
end B5

namespace N4
def r5(N:aG)(g k0:zA R)(a:aA)(d:aX)(e f:aA)(h:aX):aD R:=bif decide (a<12)then bif gJ.c d e f 10000 then Lib.lt (gJ.v d e f 10000) λi=>bif cJ (h.length+(aE (aT [Ck.i ar] 1) 0 [.i .i64 i.1]).length) 8 then g (bM (a+1)) i.2.1 i.2.2.1 i.2.2.2 (h++aE (aT [Ck.i ar] 1) 0 [.i .i64 i.1])else ao else ao else k0 a d e f h
def l5(N:aG)(k0:zA R):aG->zA R
 |0=>λ_ _ _ _ _=>ao
 |n+1=>r5 N (l5 N k0 n) k0
def b(N:aG)(kr:aX->aD R)(a:aX):aD R:=bif IU.c a then Lib.lt (IU.v a) λd=>bif bS.c d.1 d.2.1 d.2.2 then Lib.lt (bS.v d.1 d.2.1 d.2.2) λe=>l5 N (λ_ _ _ _ f=>kr f) N 0 e.2.1 e.2.2.1 e.2.2.2 (aT [Ck.i ar] 0)else ao else ao
def vo:=b Lib.c7 λr0=>aj r0
def c:=λa=>(vo a).isSome
def v:=λa=>(vo a).getD ([])
theorem out{x}:∀a,vo a=aj x->c a=ak/\v a=x:=λ_=>Lib.dy
end N4

namespace vt
def b(kr:aX->aD R)(a:aX):aD R:=bif cJ ((aT [Ck.s,Ck.i ar,Ck.i ar,Ck.s] 0).length+a.length) 48 then kr (aT [Ck.s,Ck.i ar,Ck.i ar,Ck.s] 0++a)else ao
def vo:=b λr0=>aj r0
def c:=λa=>(vo a).isSome
def v:=λa=>(vo a).getD ([])
theorem out{x}:∀a,vo a=aj x->c a=ak/\v a=x:=λ_=>Lib.dy
end vt

namespace sb
def b(kr:aX->aD R)(a:aX):aD R:=bif cJ ((aT [.s] 0).length+a.length) 16 then kr (aT [.s] 0++a)else ao
def vo:=b λr0=>aj r0
def c:=λa=>(vo a).isSome
def v:=λa=>(vo a).getD ([])
theorem out{x}:∀a,vo a=aj x->c a=ak/\v a=x:=λ_=>Lib.dy
end sb

namespace uM
def b(kr:aX->aD R)(a:aX):aD R:=bif cJ ((aT [Ck.i ar] 0).length+a.length) 8 then kr (aT [Ck.i ar] 0++a)else ao
def vo:=b λr0=>aj r0
def c:=λa=>(vo a).isSome
def v:=λa=>(vo a).getD ([])
theorem out{x}:∀a,vo a=aj x->c a=ak/\v a=x:=λ_=>Lib.dy
end uM

namespace iV
def r3(N:aG)(g:kq R)(g1:oA R)(k0:kq R)(k1:oA R)(a:aX)(d e f h:aA):aD R:=bif decide (e<d)then bif decide (0<=e)&&decide (e<(a.length:aA))then bif uM.c (ju (aw a e.toNat 0))then g1 a d (bM (e+1)) f h ([]++aE (aT [Ck.l 3] 1) 0 [CV.l 3 (uM.v (ju (aw a e.toNat 0)))])else ao else ao else k0 a d e f h
def z7(N:aG)(g:kq R)(g1:oA R)(k0:kq R)(k1:oA R)(a:aX)(d e f h:aA)(i:aX):aD R:=bif decide (e<d)then bif decide (0<=e)&&decide (e<(a.length:aA))then bif uM.c (ju (aw a e.toNat 0))then bif cJ (i.length+(aE (aT [Ck.l 3] 1) 0 [CV.l 3 (uM.v (ju (aw a e.toNat 0)))]).length) 24 then g1 a d (bM (e+1)) f h (i++aE (aT [Ck.l 3] 1) 0 [CV.l 3 (uM.v (ju (aw a e.toNat 0)))])else ao else ao else ao else k1 a d e f h i
def tW(N:aG)(k0:kq R)(k1:oA R):aG->oA R
 |0=>λ_ _ _ _ _ _=>ao
 |n+1=>z7 N (λx0 x1 x2 x3 x4=>ao) (tW N k0 k1 n) k0 k1
def l3(N:aG)(k0:kq R)(k1:oA R):aG->kq R
 |0=>λ_ _ _ _ _=>ao
 |n+1=>r3 N (l3 N k0 k1 n) (tW N k0 k1 n) k0 k1
def b(N:aG)(kr:uq R)(a:aX)(d:aA):aD R:=l3 N (λ_ _ _ _ e=>kr [] e) (λ_ _ _ _ e f=>kr f e) N a (a.length:aA) 0 0 d
def vo:=b Lib.c7 λr0 r1=>aj (r0,r1)
def c:=λa d=>(vo a d).isSome
def v:=λa d=>(vo a d).getD ([],0)
theorem out{x}:∀a d,vo a d=aj x->c a d=ak/\v a d=x:=λ_ _=>Lib.dy
end iV

namespace i9
def b(kr:wO R)(a d e:aX)(f:aA):aD R:=bif sb.c a then bif sb.c d then bif iV.c e f then kr (sb.v a) (sb.v d) (iV.v e f).1 (iV.v e f).2 else ao else ao else ao
def vo:=b λr0 r1 r2 r3=>aj (r0,r1,r2,r3)
def c:=λa d e f=>(vo a d e f).isSome
def v:=λa d e f=>(vo a d e f).getD ([],[],[],0)
theorem out{x}:∀a d e f,vo a d e f=aj x->c a d e f=ak/\v a d e f=x:=λ_ _ _ _=>Lib.dy
end i9

namespace uO
def b(kr:eJ R)(a:aA)(d e f h:aX)(i:aA)(j l:aX)(m:aA):aD R:=bif vt.c d then bif i9.c e f h i then bif cJ ((aT [Ck.s,Ck.s,Ck.i ar,Ck.i ar,Ck.i ar] 0).length+j.length) 56 then bif cJ ((aT [Ck.i ar,Ck.s,Ck.i ar,Ck.i ar,Ck.i ar,Ck.s,Ck.i ar] 0).length+l.length) 72 then kr a (vt.v d) (i9.v e f h i).1 (i9.v e f h i).2.1 (i9.v e f h i).2.2.1 (i9.v e f h i).2.2.2 (aT [Ck.s,Ck.s,Ck.i ar,Ck.i ar,Ck.i ar] 0++j) (aT [Ck.i ar,Ck.s,Ck.i ar,Ck.i ar,Ck.i ar,Ck.s,Ck.i ar] 0++l) m else ao else ao else ao else ao
def vo:=b λr0 r1 r2 r3 r4 r5 r6 r7 r8=>aj (r0,r1,r2,r3,r4,r5,r6,r7,r8)
def c:=λa d e f h i j l m=>(vo a d e f h i j l m).isSome
def v:=λa d e f h i j l m=>(vo a d e f h i j l m).getD (0,[],[],[],[],0,[],[],0)
theorem out{x}:∀a d e f h i j l m,vo a d e f h i j l m=aj x->c a d e f h i j l m=ak/\v a d e f h i j l m=x:=λ_ _ _ _ _ _ _ _ _=>Lib.dy
end uO

namespace II
def b(kr:aY->aD R)(a:aA)(d:au)(e f h:aA)(i:au)(j Bb:aA):aD R:=kr (decide (a=Bb))
def v(a0:aA)(a1:au)(a2 a3 a4:aA)(a5:au)(a6 Bb:aA):aY:=(decide (a0=Bb))
theorem fI(kr:aY->aD R)(a0:aA)(a1:au)(a2 a3 a4:aA)(a5:au)(a6 Bb:aA):b kr a0 a1 a2 a3 a4 a5 a6 Bb=kr (v a0 a1 a2 a3 a4 a5 a6 Bb):=by first|rfl|(unfold b v;simp only[c8];(repeat' split)<;>rfl)
end II

namespace qc
def r2(N:aG)(g k0 k1:kq R)(a:aX)(d e f h:aA):aD R:=bif decide (h<f)then bif decide (0<=h)&&decide (h<(a.length:aA))then bif II.v (bY (aw a h.toNat 0)) (bQ (aw a h.toNat 1)) (bY (aw a h.toNat (1+1))) (bY (aw a h.toNat (1+1+1))) (bY (aw a h.toNat (1+1+1+1))) (bQ (aw a h.toNat (1+1+1+1+1))) (bY (aw a h.toNat (1+1+1+1+1+1))) d then k0 a d h f h else g a d e f (bM (h+1))else ao else k1 a d e f h
def l2(N:aG)(k0 k1:kq R):aG->kq R
 |0=>λ_ _ _ _ _=>ao
 |n+1=>r2 N (l2 N k0 k1 n) k0 k1
def b(N:aG)(kr:aA->aD R)(a:aX)(Bb:aA):aD R:=l2 N (λ_ _ d _ _=>kr d) (λ_ _ _ _ _=>kr (-1)) N a Bb 0 (a.length:aA) 0
def vo:=b Lib.c7 λr0=>aj r0
def c:=λa d=>(vo a d).isSome
def v:=λa d=>(vo a d).getD (0)
theorem out{x}:∀a d,vo a d=aj x->c a d=ak/\v a d=x:=λ_ _=>Lib.dy
end qc

namespace N7
def b(kr:aY->aD R)(a:aA)(d:au)(e f h:aA)(i:au)(j Bb:aA):aD R:=kr (decide (a=Bb))
def v(a0:aA)(a1:au)(a2 a3 a4:aA)(a5:au)(a6 Bb:aA):aY:=(decide (a0=Bb))
theorem fI(kr:aY->aD R)(a0:aA)(a1:au)(a2 a3 a4:aA)(a5:au)(a6 Bb:aA):b kr a0 a1 a2 a3 a4 a5 a6 Bb=kr (v a0 a1 a2 a3 a4 a5 a6 Bb):=by first|rfl|(unfold b v;simp only[c8];(repeat' split)<;>rfl)
end N7

namespace mH
def r2(N:aG)(g k0 k1:kq R)(a:aX)(d e f h:aA):aD R:=bif decide (h<f)then bif decide (0<=h)&&decide (h<(a.length:aA))then bif N7.v (bY (aw a h.toNat 0)) (bQ (aw a h.toNat 1)) (bY (aw a h.toNat (1+1))) (bY (aw a h.toNat (1+1+1))) (bY (aw a h.toNat (1+1+1+1))) (bQ (aw a h.toNat (1+1+1+1+1))) (bY (aw a h.toNat (1+1+1+1+1+1))) d then k0 a d h f h else g a d e f (bM (h+1))else ao else k1 a d e f h
def l2(N:aG)(k0 k1:kq R):aG->kq R
 |0=>λ_ _ _ _ _=>ao
 |n+1=>r2 N (l2 N k0 k1 n) k0 k1
def b(N:aG)(kr:aA->aD R)(a:aX)(Bb:aA):aD R:=l2 N (λ_ _ d _ _=>kr d) (λ_ _ _ _ _=>kr (-1)) N a Bb 0 (a.length:aA) 0
def vo:=b Lib.c7 λr0=>aj r0
def c:=λa d=>(vo a d).isSome
def v:=λa d=>(vo a d).getD (0)
theorem out{x}:∀a d,vo a d=aj x->c a d=ak/\v a d=x:=λ_ _=>Lib.dy
end mH

namespace KZ
def r5(N:aG)(g k0:kU R)(a d e:aA)(f:aX):aD R:=bif decide (e<(f.length:aA))then bif decide (0<=e)&&decide (e<(f.length:aA))then bif !N7.v (bY (aw f e.toNat 0)) (bQ (aw f e.toNat 1)) (bY (aw f e.toNat (1+1))) (bY (aw f e.toNat (1+1+1))) (bY (aw f e.toNat (1+1+1+1))) (bQ (aw f e.toNat (1+1+1+1+1))) (bY (aw f e.toNat (1+1+1+1+1+1))) a then bif decide (0<=d)&&decide (d<(f.length:aA))then g a (bM (d+1)) (bM (e+1)) (eh f d.toNat 0 [.i .i64 (bY (aw f e.toNat 0)), .s (bQ (aw f e.toNat 1)), .i .i64 (bY (aw f e.toNat (1+1))), .i .i64 (bY (aw f e.toNat (1+1+1))), .i .i64 (bY (aw f e.toNat (1+1+1+1))), .s (bQ (aw f e.toNat (1+1+1+1+1))), .i .i64 (bY (aw f e.toNat (1+1+1+1+1+1)))])else ao else g a d (bM (e+1)) f else ao else k0 a d e f
def l5(N:aG)(k0:kU R):aG->kU R
 |0=>λ_ _ _ _=>ao
 |n+1=>r5 N (l5 N k0 n) k0
def b(N:aG)(kr:aX->aD R)(a:aX)(Bb:aA):aD R:=bif mH.c a Bb then bif decide (mH.v a Bb=MD 1)then kr a else l5 N (λ_ d _ e=>bif iO d (e.length:aA) (e.length:aA)then bif iO 0 d ((i_ d.toNat e++aT [Ck.i ar,Ck.s,Ck.i ar,Ck.i ar,Ck.i ar,Ck.s,Ck.i ar] ((e.length:aA).toNat-d.toNat)++pj (e.length:aA).toNat e).length:aA)then kr (eP (i_ d.toNat e++aT [Ck.i ar,Ck.s,Ck.i ar,Ck.i ar,Ck.i ar,Ck.s,Ck.i ar] ((e.length:aA).toNat-d.toNat)++pj (e.length:aA).toNat e) (bc 0) d.toNat)else ao else ao) N Bb (mH.v a Bb) (bM (mH.v a Bb+1)) a else ao
def vo:=b Lib.c7 λr0=>aj r0
def c:=λa d=>(vo a d).isSome
def v:=λa d=>(vo a d).getD ([])
theorem out{x}:∀a d,vo a d=aj x->c a d=ak/\v a d=x:=λ_ _=>Lib.dy
end KZ

namespace FY
def b(kr:eJ R)(a:aA)(d e f h:aX)(i:aA)(j l:aX)(m o:aA):aD R:=bif uO.c a d e f h i j l m then bif KZ.c (uO.v a d e f h i j l m).2.2.2.2.2.2.2.1 o then kr (uO.v a d e f h i j l m).1 (uO.v a d e f h i j l m).2.1 (uO.v a d e f h i j l m).2.2.1 (uO.v a d e f h i j l m).2.2.2.1 (uO.v a d e f h i j l m).2.2.2.2.1 (uO.v a d e f h i j l m).2.2.2.2.2.1 (uO.v a d e f h i j l m).2.2.2.2.2.2.1 (KZ.v (uO.v a d e f h i j l m).2.2.2.2.2.2.2.1 o) (uO.v a d e f h i j l m).2.2.2.2.2.2.2.2 else ao else ao
def vo:=b λr0 r1 r2 r3 r4 r5 r6 r7 r8=>aj (r0,r1,r2,r3,r4,r5,r6,r7,r8)
def c:=λa d e f h i j l m o=>(vo a d e f h i j l m o).isSome
def v:=λa d e f h i j l m o=>(vo a d e f h i j l m o).getD (0,[],[],[],[],0,[],[],0)
theorem out{x}:∀a d e f h i j l m o,vo a d e f h i j l m o=aj x->c a d e f h i j l m o=ak/\v a d e f h i j l m o=x:=λ_ _ _ _ _ _ _ _ _ _=>Lib.dy
end FY

namespace oe
def b(kr:aY->aD R)(a d e:aA):aD R:=bif decide (a≥d)then kr (decide (a<=e))else kr aq
def v(a0 a1 a2:aA):aY:=bif decide (a0≥a1)then decide (a0<=a2)else aq
theorem fI(kr:aY->aD R)(a0 a1 a2:aA):b kr a0 a1 a2=kr (v a0 a1 a2):=by first|rfl|(unfold b v;simp only[c8];(repeat' split)<;>rfl)
end oe

namespace MG
def b(kr:aY->aD R)(a:au):aD R:=kr (oe.v (a.size:aA) 1 30)
def v(a0:au):aY:=(oe.v (a0.size:aA) 1 30)
theorem fI(kr:aY->aD R)(a0:au):b kr a0=kr (v a0):=by first|rfl|(unfold b v;simp only[c8];(repeat' split)<;>rfl)
end MG

namespace Ax
def b(kr:aY->aD R)(a:aA):aD R:=kr (oe.v a 0 1000000000)
def v(a0:aA):aY:=(oe.v a0 0 1000000000)
theorem fI(kr:aY->aD R)(a0:aA):b kr a0=kr (v a0):=by first|rfl|(unfold b v;simp only[c8];(repeat' split)<;>rfl)
end Ax

namespace Ay
def b(kr:aY->aD R)(a:au)(d e:aA)(f:au):aD R:=bif MG.v a then bif Ax.v d then bif oe.v e 1 999999 then kr (decide ((f.size:aA)<=400))else kr aq else kr aq else kr aq
def v(a0:au)(a1 a2:aA)(a3:au):aY:=bif MG.v a0 then bif Ax.v a1 then bif oe.v a2 1 999999 then decide ((a3.size:aA)<=400)else aq else aq else aq
theorem fI(kr:aY->aD R)(a0:au)(a1 a2:aA)(a3:au):b kr a0 a1 a2 a3=kr (v a0 a1 a2 a3):=by first|rfl|(unfold b v;simp only[c8];(repeat' split)<;>rfl)
end Ay

namespace Cn
def b(kr:aX->aD R)(a:aA):aD R:=bif decide (a<0)then ao else bif decide (bM (a-bM (0-0))>0)then bif decide (0<=bM (a-bM (0-0)))&&cJ (([]:aX).length+(bM (a-bM (0-0))).toNat) 16&&decide (bM (a-bM (0-0))<=9223372036854775807)then kr (eP ([]++aT [.s] (bM (a-bM (0-0))).toNat) (bc 0) (bc 0))else ao else kr []
def vo:=b λr0=>aj r0
def c:=λa=>(vo a).isSome
def v:=λa=>(vo a).getD ([])
theorem out{x}:∀a,vo a=aj x->c a=ak/\v a=x:=λ_=>Lib.dy
end Cn

namespace vv
def z5(N:aG)(g k0:qF R)(a:aX)(d e:aA)(f:aX):aD R:=bif decide (e<d)then bif decide (0<=e)&&decide (e<(a.length:aA))then bif cJ (f.length+(ju (aw a e.toNat 0)).length) 16 then g a d (bM (e+1)) (f++ju (aw a e.toNat 0))else ao else ao else k0 a d e f
def Fc(N:aG)(k0:qF R):aG->qF R
 |0=>λ_ _ _ _=>ao
 |n+1=>z5 N (Fc N k0 n) k0
def r3(N:aG)(g k0:zD R)(a:aX)(d:aA)(e:aX)(f h:aA):aD R:=bif decide (h<f)then bif decide (0<=h)&&decide (h<(e.length:aA))then bif decide (bM (d+((ju (aw e h.toNat 0)).length:aA))<0)then ao else g a (bM (d+((ju (aw e h.toNat 0)).length:aA))) e f (bM (h+1))else ao else k0 a d e f h
def l3(N:aG)(k0:zD R):aG->zD R
 |0=>λ_ _ _ _ _=>ao
 |n+1=>r3 N (l3 N k0 n) k0
def b(N:aG)(kr:aX->aD R)(a:aX):aD R:=l3 N (λd e _ _ _=>bif Cn.c e then Fc N (λ_ _ _ f=>kr f) N d (d.length:aA) 0 (Cn.v e)else ao) N a 0 a (a.length:aA) 0
def vo:=b Lib.c7 λr0=>aj r0
def c:=λa=>(vo a).isSome
def v:=λa=>(vo a).getD ([])
theorem out{x}:∀a,vo a=aj x->c a=ak/\v a=x:=λ_=>Lib.dy
end vv

namespace qf
def b(kr:aX->aD R)(a d e:aX)(f:aA):aD R:=bif vv.c (aE (aE (aT [Ck.l 9] 2) 0 [CV.l 9 a]) 1 [CV.l 9 d])then kr (vv.v (aE (aE (aT [Ck.l 9] 2) 0 [CV.l 9 a]) 1 [CV.l 9 d]))else ao
def vo:=b λr0=>aj r0
def c:=λa d e f=>(vo a d e f).isSome
def v:=λa d e f=>(vo a d e f).getD ([])
theorem out{x}:∀a d e f,vo a d e f=aj x->c a d e f=ak/\v a d e f=x:=λ_ _ _ _=>Lib.dy
end qf

namespace zm
def r2(N:aG)(g k0 k1:iG R)(a:aX)(d:au)(e f h:aA):aD R:=bif decide (h<f)then bif decide (0<=h)&&decide (h<(a.length:aA))then bif dC (aL d) (bQ (aw a h.toNat 0)).toList then k0 a d h f h else g a d e f (bM (h+1))else ao else k1 a d e f h
def l2(N:aG)(k0 k1:iG R):aG->iG R
 |0=>λ_ _ _ _ _=>ao
 |n+1=>r2 N (l2 N k0 k1 n) k0 k1
def b(N:aG)(kr:aA->aD R)(a:aX)(d:au):aD R:=l2 N (λ_ _ e _ _=>kr e) (λ_ _ _ _ _=>kr (-1)) N a d 0 (a.length:aA) 0
def vo:=b Lib.c7 λr0=>aj r0
def c:=λa d=>(vo a d).isSome
def v:=λa d=>(vo a d).getD (0)
theorem out{x}:∀a d,vo a d=aj x->c a d=ak/\v a d=x:=λ_ _=>Lib.dy
end zm

namespace rM
def b(kr:aY->aD R)(a:aX)(d:au):aD R:=bif zm.c a d then kr (decide (zm.v a d≥0))else ao
def vo:=b λr0=>aj r0
def c:=λa d=>(vo a d).isSome
def v:=λa d=>(vo a d).getD aq
theorem out{x}:∀a d,vo a d=aj x->c a d=ak/\v a d=x:=λ_ _=>Lib.dy
end rM

namespace uK
def b(kr:aY->aD R)(a d e:aX)(f:aA)(h:au):aD R:=bif qf.c a d e f then bif rM.c (qf.v a d e f) h then kr (rM.v (qf.v a d e f) h)else ao else ao
def vo:=b λr0=>aj r0
def c:=λa d e f h=>(vo a d e f h).isSome
def v:=λa d e f h=>(vo a d e f h).getD aq
theorem out{x}:∀a d e f h,vo a d e f h=aj x->c a d e f h=ak/\v a d e f h=x:=λ_ _ _ _ _=>Lib.dy
end uK

namespace o8
def r5(N:aG)(g k0 k1:qC R)(a:aY)(d e:aX)(f h:aA)(i:aX)(j l:aA)(m:aX)(o:aA):aD R:=bif decide (l<j)then bif decide (0<=l)&&decide (l<(i.length:aA))then bif !oe.v (bY (aw i l.toNat 0)) 0 15 then k0 aq d e f h i j l m o else g a d e f h i j (bM (l+1)) m o else ao else k1 a d e f h i j l m o
def l5(N:aG)(k0 k1:qC R):aG->qC R
 |0=>λ_ _ _ _ _ _ _ _ _ _=>ao
 |n+1=>r5 N (l5 N k0 k1 n) k0 k1
def r2(N:aG)(g k0 k1:Ai R)(a:aY)(d:aX)(e f:aA)(h:aX)(i:aA):aD R:=bif decide (f<e)then bif decide (0<=f)&&decide (f<(d.length:aA))then l5 N (λj _ l m o _ _ _ p q=>k0 j l m o p q) (λj l m o p _ _ _ q r=>bif(l.length:aA) !=16 then k0 aq m o p q r else g j m o (bM (p+1)) q r) N a (ju (aw d f.toNat 0)) d e f (ju (aw d f.toNat 0)) ((ju (aw d f.toNat 0)).length:aA) 0 h i else ao else k1 a d e f h i
def l2(N:aG)(k0 k1:Ai R):aG->Ai R
 |0=>λ_ _ _ _ _ _=>ao
 |n+1=>r2 N (l2 N k0 k1 n) k0 k1
def b(N:aG)(kr:aY->aD R)(a:aX)(d:aA):aD R:=l2 N (λe _ _ _ _ _=>kr e) (λ_ _ _ _ e f=>bif decide ((e.length:aA)=3)then kr (oe.v f 0 63)else kr aq) N aq a (a.length:aA) 0 a d
def vo:=b Lib.c7 λr0=>aj r0
def c:=λa d=>(vo a d).isSome
def v:=λa d=>(vo a d).getD aq
theorem out{x}:∀a d,vo a d=aj x->c a d=ak/\v a d=x:=λ_ _=>Lib.dy
end o8

namespace oF
def r3(N:aG)(g k0 k1:um R)(a:aY)(d e:aA)(f h i:aX)(j:aA)(l:aX):aD R:=bif decide (e<d)then bif decide (0<=e)&&decide (e<(l.length:aA))then bif !MG.v (bQ (aw l e.toNat 0))then k0 aq d e f h i j l else bif iO 0 e (l.length:aA)then bif rM.c (eP l (bc 0) e.toNat) (bQ (aw l e.toNat 0))then bif rM.v (eP l (bc 0) e.toNat) (bQ (aw l e.toNat 0))then k0 aq d e f h i j l else g a d (bM (e+1)) f h i j l else ao else ao else ao else k1 a d e f h i j l
def l3(N:aG)(k0 k1:um R):aG->um R
 |0=>λ_ _ _ _ _ _ _ _=>ao
 |n+1=>r3 N (l3 N k0 k1 n) k0 k1
def b(N:aG)(kr:aY->aD R)(a d e:aX)(f:aA):aD R:=bif qf.c a d e f then l3 N (λh _ _ _ _ _ _ _=>kr h) (λ_ _ _ h i j l _=>bif decide ((h.length:aA)<=2)then bif decide ((i.length:aA)<=4)then bif o8.c j l then kr (o8.v j l)else ao else kr aq else kr aq) N aq ((qf.v a d e f).length:aA) 0 a d e f (qf.v a d e f)else ao
def vo:=b Lib.c7 λr0=>aj r0
def c:=λa d e f=>(vo a d e f).isSome
def v:=λa d e f=>(vo a d e f).getD aq
theorem out{x}:∀a d e f,vo a d e f=aj x->c a d e f=ak/\v a d e f=x:=λ_ _ _ _=>Lib.dy
end oF

namespace N8
def r2(N:aG)(g k0 k1:eA R)(a:aY)(d:aX)(e f h:aA)(i j l m:aX)(o:aA)(p q:aX)(r:aA):aD R:=bif decide (f<e)then bif decide (0<=f)&&decide (f<(d.length:aA))then bif !Ay.v (bQ (aw d f.toNat 0)) (bY (aw d f.toNat 1)) (bY (aw d f.toNat (1+1))) (bQ (aw d f.toNat (1+1+1)))then k0 aq d e f h i j l m o p q r else bif decide (f>0)then bif decide (0<=bM (f-1))&&decide (bM (f-1)<(i.length:aA))then bif !Op.bytesLess (bQ (aw i (bM (f-1)).toNat 0)).toList (bQ (aw d f.toNat 0)).toList then k0 aq d e f h i j l m o p q r else bif uK.c j l m o (bQ (aw d f.toNat 0))then bif !uK.v j l m o (bQ (aw d f.toNat 0))then k0 aq d e f h i j l m o p q r else g a d e (bM (f+1)) h i j l m o p q r else ao else ao else bif uK.c j l m o (bQ (aw d f.toNat 0))then bif !uK.v j l m o (bQ (aw d f.toNat 0))then k0 aq d e f h i j l m o p q r else g a d e (bM (f+1)) h i j l m o p q r else ao else ao else k1 a d e f h i j l m o p q r
def l2(N:aG)(k0 k1:eA R):aG->eA R
 |0=>λ_ _ _ _ _ _ _ _ _ _ _ _ _=>ao
 |n+1=>r2 N (l2 N k0 k1 n) k0 k1
def b(N:aG)(kr:aY->aD R)(a:aA)(d e f h:aX)(i:aA)(j l:aX)(m:aA):aD R:=l2 N (λo _ _ _ _ _ _ _ _ _ _ _ _=>kr o) (λ_ _ _ _ _ o p q r s _ _ _=>bif oF.c p q r s then bif oF.v p q r s then bif qf.c p q r s then kr (decide (((qf.v p q r s).length:aA)=(o.length:aA)))else ao else kr aq else ao) N aq d (d.length:aA) 0 a d e f h i j l m
def vo:=b Lib.c7 λr0=>aj r0
def c:=λa d e f h i j l m=>(vo a d e f h i j l m).isSome
def v:=λa d e f h i j l m=>(vo a d e f h i j l m).getD aq
theorem out{x}:∀a d e f h i j l m,vo a d e f h i j l m=aj x->c a d e f h i j l m=ak/\v a d e f h i j l m=x:=λ_ _ _ _ _ _ _ _ _=>Lib.dy
end N8

namespace Gu
def b(kr:aY->aD R)(a d:au)(e f h:aA)(gq:au):aD R:=bif dC (aL a) (aL gq)then kr (decide (e=1))else kr aq
def v(a0 a1:au)(a2 a3 a4:aA)(gq:au):aY:=bif dC (aL a0) (aL gq)then decide (a2=1)else aq
theorem fI(kr:aY->aD R)(a0 a1:au)(a2 a3 a4:aA)(gq:au):b kr a0 a1 a2 a3 a4 gq=kr (v a0 a1 a2 a3 a4 gq):=by first|rfl|(unfold b v;simp only[c8];(repeat' split)<;>rfl)
end Gu

namespace qd
def r2(N:aG)(g k0 k1:iG R)(a:aX)(d:au)(e f h:aA):aD R:=bif decide (h<f)then bif decide (0<=h)&&decide (h<(a.length:aA))then bif Gu.v (bQ (aw a h.toNat 0)) (bQ (aw a h.toNat 1)) (bY (aw a h.toNat (1+1))) (bY (aw a h.toNat (1+1+1))) (bY (aw a h.toNat (1+1+1+1))) d then k0 a d h f h else g a d e f (bM (h+1))else ao else k1 a d e f h
def l2(N:aG)(k0 k1:iG R):aG->iG R
 |0=>λ_ _ _ _ _=>ao
 |n+1=>r2 N (l2 N k0 k1 n) k0 k1
def b(N:aG)(kr:aA->aD R)(a:aX)(gq:au):aD R:=l2 N (λ_ _ d _ _=>kr d) (λ_ _ _ _ _=>kr (-1)) N a gq 0 (a.length:aA) 0
def vo:=b Lib.c7 λr0=>aj r0
def c:=λa d=>(vo a d).isSome
def v:=λa d=>(vo a d).getD (0)
theorem out{x}:∀a d,vo a d=aj x->c a d=ak/\v a d=x:=λ_ _=>Lib.dy
end qd

namespace IQ
def b(kr:aA->aD R)(a:aA)(d e f h:aX)(i:aA)(j l:aX)(m:aA)(o:au):aD R:=bif qd.c j o then kr (qd.v j o)else ao
def vo:=b λr0=>aj r0
def c:=λa d e f h i j l m o=>(vo a d e f h i j l m o).isSome
def v:=λa d e f h i j l m o=>(vo a d e f h i j l m o).getD (0)
theorem out{x}:∀a d e f h i j l m o,vo a d e f h i j l m o=aj x->c a d e f h i j l m o=ak/\v a d e f h i j l m o=x:=λ_ _ _ _ _ _ _ _ _ _=>Lib.dy
end IQ

namespace vq
def r2(N:aG)(g k0 k1:eA R)(a:aY)(d:aX)(e f h:aA)(i j l m:aX)(o:aA)(p q:aX)(r:aA):aD R:=bif decide (f<e)then bif decide (0<=f)&&decide (f<(d.length:aA))then bif decide (bY (aw d f.toNat (1+1))=1)then bif IQ.c h i j l m o p q r (bQ (aw d f.toNat 0))then bif IQ.v h i j l m o p q r (bQ (aw d f.toNat 0)) !=f then k0 aq d e f h i j l m o p q r else g a d e (bM (f+1)) h i j l m o p q r else ao else g a d e (bM (f+1)) h i j l m o p q r else ao else k1 a d e f h i j l m o p q r
def l2(N:aG)(k0 k1:eA R):aG->eA R
 |0=>λ_ _ _ _ _ _ _ _ _ _ _ _ _=>ao
 |n+1=>r2 N (l2 N k0 k1 n) k0 k1
def b(N:aG)(kr:aY->aD R)(a:aA)(d e f h:aX)(i:aA)(j l:aX)(m:aA):aD R:=l2 N (λo _ _ _ _ _ _ _ _ _ _ _ _=>kr o) (λ_ _ _ _ _ _ _ _ _ _ _ _ _=>kr ak) N aq j (j.length:aA) 0 a d e f h i j l m
def vo:=b Lib.c7 λr0=>aj r0
def c:=λa d e f h i j l m=>(vo a d e f h i j l m).isSome
def v:=λa d e f h i j l m=>(vo a d e f h i j l m).getD aq
theorem out{x}:∀a d e f h i j l m,vo a d e f h i j l m=aj x->c a d e f h i j l m=ak/\v a d e f h i j l m=x:=λ_ _ _ _ _ _ _ _ _=>Lib.dy
end vq

namespace MI
def r2(N:aG)(g k0 k1:eA R)(a:aY)(d:aX)(e f h:aA)(i j l m:aX)(o:aA)(p q:aX)(r:aA):aD R:=bif decide (f<e)then bif decide (0<=f)&&decide (f<(d.length:aA))then bif !MG.v (bQ (aw d f.toNat 0))then k0 aq d e f h i j l m o p q r else bif decide (((bQ (aw d f.toNat 1)).size:aA)>400)then k0 aq d e f h i j l m o p q r else bif !oe.v (bY (aw d f.toNat (1+1))) 1 3 then k0 aq d e f h i j l m o p q r else bif !oe.v (bY (aw d f.toNat (1+1+1))) 0 999999 then k0 aq d e f h i j l m o p q r else bif !oe.v (bY (aw d f.toNat (1+1+1+1))) 0 h then k0 aq d e f h i j l m o p q r else g a d e (bM (f+1)) h i j l m o p q r else ao else k1 a d e f h i j l m o p q r
def l2(N:aG)(k0 k1:eA R):aG->eA R
 |0=>λ_ _ _ _ _ _ _ _ _ _ _ _ _=>ao
 |n+1=>r2 N (l2 N k0 k1 n) k0 k1
def b(N:aG)(kr:aY->aD R)(a:aA)(d e f h:aX)(i:aA)(j l:aX)(m:aA):aD R:=l2 N (λo _ _ _ _ _ _ _ _ _ _ _ _=>kr o) (λ_ _ _ _ o p q r s t u w y=>bif decide ((u.length:aA)<=20)then bif vq.c o p q r s t u w y then kr (vq.v o p q r s t u w y)else ao else kr aq) N aq j (j.length:aA) 0 a d e f h i j l m
def vo:=b Lib.c7 λr0=>aj r0
def c:=λa d e f h i j l m=>(vo a d e f h i j l m).isSome
def v:=λa d e f h i j l m=>(vo a d e f h i j l m).getD aq
theorem out{x}:∀a d e f h i j l m,vo a d e f h i j l m=aj x->c a d e f h i j l m=ak/\v a d e f h i j l m=x:=λ_ _ _ _ _ _ _ _ _=>Lib.dy
end MI

namespace N9
def r2(N:aG)(g k0 k1:eA R)(a:aY)(d:aX)(e f h:aA)(i j l m:aX)(o:aA)(p q:aX)(r:aA):aD R:=bif decide (f<e)then bif decide (0<=f)&&decide (f<(d.length:aA))then bif !oe.v (bY (aw d f.toNat 0)) 1 9 then k0 aq d e f h i j l m o p q r else bif decide (f>0)then bif decide (0<=bM (f-1))&&decide (bM (f-1)<(q.length:aA))then bif decide (bY (aw q (bM (f-1)).toNat 0)≥bY (aw d f.toNat 0))then k0 aq d e f h i j l m o p q r else bif !MG.v (bQ (aw d f.toNat 1))then k0 aq d e f h i j l m o p q r else bif !oe.v (bY (aw d f.toNat (1+1+1+1))) 1 3 then k0 aq d e f h i j l m o p q r else bif !oe.v (bY (aw d f.toNat (1+1))) 0 (p.length:aA)then k0 aq d e f h i j l m o p q r else bif decide (((bQ (aw d f.toNat (1+1+1+1+1))).size:aA)>400)then k0 aq d e f h i j l m o p q r else bif !oe.v (bY (aw d f.toNat (1+1+1))) 0 h then k0 aq d e f h i j l m o p q r else bif decide (bY (aw d f.toNat (1+1+1+1+1+1))<0)then k0 aq d e f h i j l m o p q r else g a d e (bM (f+1)) h i j l m o p q r else ao else bif !MG.v (bQ (aw d f.toNat 1))then k0 aq d e f h i j l m o p q r else bif !oe.v (bY (aw d f.toNat (1+1+1+1))) 1 3 then k0 aq d e f h i j l m o p q r else bif !oe.v (bY (aw d f.toNat (1+1))) 0 (p.length:aA)then k0 aq d e f h i j l m o p q r else bif decide (((bQ (aw d f.toNat (1+1+1+1+1))).size:aA)>400)then k0 aq d e f h i j l m o p q r else bif !oe.v (bY (aw d f.toNat (1+1+1))) 0 h then k0 aq d e f h i j l m o p q r else bif decide (bY (aw d f.toNat (1+1+1+1+1+1))<0)then k0 aq d e f h i j l m o p q r else g a d e (bM (f+1)) h i j l m o p q r else ao else k1 a d e f h i j l m o p q r
def l2(N:aG)(k0 k1:eA R):aG->eA R
 |0=>λ_ _ _ _ _ _ _ _ _ _ _ _ _=>ao
 |n+1=>r2 N (l2 N k0 k1 n) k0 k1
def b(N:aG)(kr:aY->aD R)(a:aA)(d e f h:aX)(i:aA)(j l:aX)(m:aA):aD R:=l2 N (λo _ _ _ _ _ _ _ _ _ _ _ _=>kr o) (λ_ _ _ _ _ _ _ _ _ _ _ o _=>kr (decide ((o.length:aA)<=6))) N aq l (l.length:aA) 0 a d e f h i j l m
def vo:=b Lib.c7 λr0=>aj r0
def c:=λa d e f h i j l m=>(vo a d e f h i j l m).isSome
def v:=λa d e f h i j l m=>(vo a d e f h i j l m).getD aq
theorem out{x}:∀a d e f h i j l m,vo a d e f h i j l m=aj x->c a d e f h i j l m=ak/\v a d e f h i j l m=x:=λ_ _ _ _ _ _ _ _ _=>Lib.dy
end N9

namespace ED
def b(kr:aY->aD R)(a:aA)(d e f h:aX)(i:aA)(j l:aX)(m:aA):aD R:=bif oe.v a 1 1000000000 then bif N8.c a d e f h i j l m then bif N8.v a d e f h i j l m then bif MI.c a d e f h i j l m then bif MI.v a d e f h i j l m then bif N9.c a d e f h i j l m then bif N9.v a d e f h i j l m then kr (Ax.v m)else kr aq else ao else kr aq else ao else kr aq else ao else kr aq
def vo:=b λr0=>aj r0
def c:=λa d e f h i j l m=>(vo a d e f h i j l m).isSome
def v:=λa d e f h i j l m=>(vo a d e f h i j l m).getD aq
theorem out{x}:∀a d e f h i j l m,vo a d e f h i j l m=aj x->c a d e f h i j l m=ak/\v a d e f h i j l m=x:=λ_ _ _ _ _ _ _ _ _=>Lib.dy
end ED

namespace TM
def b(kr:aA->aD R)(a:aA)(d e f h:aX)(i:aA)(j l:aX)(m o:aA):aD R:=bif qc.c l o then kr (qc.v l o)else ao
def vo:=b λr0=>aj r0
def c:=λa d e f h i j l m o=>(vo a d e f h i j l m o).isSome
def v:=λa d e f h i j l m o=>(vo a d e f h i j l m o).getD (0)
theorem out{x}:∀a d e f h i j l m o,vo a d e f h i j l m o=aj x->c a d e f h i j l m o=ak/\v a d e f h i j l m o=x:=λ_ _ _ _ _ _ _ _ _ _=>Lib.dy
end TM

namespace U67
def b(kr:aY->aD R)(a:au)(d e:aA)(f gq:au):aD R:=kr (dC (aL a) (aL gq))
def v(a0:au)(a1 a2:aA)(a3 gq:au):aY:=(dC (aL a0) (aL gq))
theorem fI(kr:aY->aD R)(a0:au)(a1 a2:aA)(a3 gq:au):b kr a0 a1 a2 a3 gq=kr (v a0 a1 a2 a3 gq):=by first|rfl|(unfold b v;simp only[c8];(repeat' split)<;>rfl)
end U67

namespace vE
def r2(N:aG)(g k0 k1:iG R)(a:aX)(d:au)(e f h:aA):aD R:=bif decide (h<f)then bif decide (0<=h)&&decide (h<(a.length:aA))then bif U67.v (bQ (aw a h.toNat 0)) (bY (aw a h.toNat 1)) (bY (aw a h.toNat (1+1))) (bQ (aw a h.toNat (1+1+1))) d then k0 a d h f h else g a d e f (bM (h+1))else ao else k1 a d e f h
def l2(N:aG)(k0 k1:iG R):aG->iG R
 |0=>λ_ _ _ _ _=>ao
 |n+1=>r2 N (l2 N k0 k1 n) k0 k1
def b(N:aG)(kr:aA->aD R)(a:aX)(gq:au):aD R:=l2 N (λ_ _ d _ _=>kr d) (λ_ _ _ _ _=>kr (-1)) N a gq 0 (a.length:aA) 0
def vo:=b Lib.c7 λr0=>aj r0
def c:=λa d=>(vo a d).isSome
def v:=λa d=>(vo a d).getD (0)
theorem out{x}:∀a d,vo a d=aj x->c a d=ak/\v a d=x:=λ_ _=>Lib.dy
end vE

namespace zk
def b(kr:aY->aD R)(a:au)(d e:aA)(f gq:au):aD R:=kr (dC (aL a) (aL gq))
def v(a0:au)(a1 a2:aA)(a3 gq:au):aY:=(dC (aL a0) (aL gq))
theorem fI(kr:aY->aD R)(a0:au)(a1 a2:aA)(a3 gq:au):b kr a0 a1 a2 a3 gq=kr (v a0 a1 a2 a3 gq):=by first|rfl|(unfold b v;simp only[c8];(repeat' split)<;>rfl)
end zk

namespace rP
def r2(N:aG)(g k0 k1:iG R)(a:aX)(d:au)(e f h:aA):aD R:=bif decide (h<f)then bif decide (0<=h)&&decide (h<(a.length:aA))then bif zk.v (bQ (aw a h.toNat 0)) (bY (aw a h.toNat 1)) (bY (aw a h.toNat (1+1))) (bQ (aw a h.toNat (1+1+1))) d then k0 a d h f h else g a d e f (bM (h+1))else ao else k1 a d e f h
def l2(N:aG)(k0 k1:iG R):aG->iG R
 |0=>λ_ _ _ _ _=>ao
 |n+1=>r2 N (l2 N k0 k1 n) k0 k1
def b(N:aG)(kr:aA->aD R)(a:aX)(gq:au):aD R:=l2 N (λ_ _ d _ _=>kr d) (λ_ _ _ _ _=>kr (-1)) N a gq 0 (a.length:aA) 0
def vo:=b Lib.c7 λr0=>aj r0
def c:=λa d=>(vo a d).isSome
def v:=λa d=>(vo a d).getD (0)
theorem out{x}:∀a d,vo a d=aj x->c a d=ak/\v a d=x:=λ_ _=>Lib.dy
end rP

namespace PS
def b(kr:aY->aD R)(a:au)(d e:aA)(f:au)(ML:aA)(GK:au)(MM GL MN:aA)(GM:au)(GN:aA):aD R:=bif dC (aL a) (aL GK)then bif decide (d=GL)then bif dC (aL f) (aL GM)then kr (decide (e>GN))else kr aq else kr aq else kr aq
def v(a0:au)(a1 a2:aA)(a3:au)(ML:aA)(GK:au)(MM GL MN:aA)(GM:au)(GN:aA):aY:=bif dC (aL a0) (aL GK)then bif decide (a1=GL)then bif dC (aL a3) (aL GM)then decide (a2>GN)else aq else aq else aq
theorem fI(kr:aY->aD R)(a0:au)(a1 a2:aA)(a3:au)(ML:aA)(GK:au)(MM GL MN:aA)(GM:au)(GN:aA):b kr a0 a1 a2 a3 ML GK MM GL MN GM GN=kr (v a0 a1 a2 a3 ML GK MM GL MN GM GN):=by first|rfl|(unfold b v;simp only[c8];(repeat' split)<;>rfl)
end PS

namespace IM
def r2(N:aG)(g k0 k1:pH R)(a:aX)(d:aA)(e:au)(f h i:aA)(j:au)(l m o p:aA):aD R:=bif decide (p<o)then bif decide (0<=p)&&decide (p<(a.length:aA))then bif PS.v (bQ (aw a p.toNat 0)) (bY (aw a p.toNat 1)) (bY (aw a p.toNat (1+1))) (bQ (aw a p.toNat (1+1+1))) d e f h i j l then k0 a d e f h i j l p o p else g a d e f h i j l m o (bM (p+1))else ao else k1 a d e f h i j l m o p
def l2(N:aG)(k0 k1:pH R):aG->pH R
 |0=>λ_ _ _ _ _ _ _ _ _ _ _=>ao
 |n+1=>r2 N (l2 N k0 k1 n) k0 k1
def b(N:aG)(kr:aA->aD R)(a:aX)(ML:aA)(GK:au)(MM GL MN:aA)(GM:au)(GN:aA):aD R:=l2 N (λ_ _ _ _ _ _ _ _ d _ _=>kr d) (λ_ _ _ _ _ _ _ _ _ _ _=>kr (-1)) N a ML GK MM GL MN GM GN 0 (a.length:aA) 0
def vo:=b Lib.c7 λr0=>aj r0
def c:=λa d e f h i j l=>(vo a d e f h i j l).isSome
def v:=λa d e f h i j l=>(vo a d e f h i j l).getD (0)
theorem out{x}:∀a d e f h i j l,vo a d e f h i j l=aj x->c a d e f h i j l=ak/\v a d e f h i j l=x:=λ_ _ _ _ _ _ _ _=>Lib.dy
end IM

namespace IP
def b(kr:aY->aD R)(a:au)(d e:aA)(f:au)(h:aA):aD R:=bif Ay.v a d e f then bif Ax.v h then kr (oe.v h d (bM (bM (d+e)-1)))else kr aq else kr aq
def v(a0:au)(a1 a2:aA)(a3:au)(a4:aA):aY:=bif Ay.v a0 a1 a2 a3 then bif Ax.v a4 then oe.v a4 a1 (bM (bM (a1+a2)-1))else aq else aq
theorem fI(kr:aY->aD R)(a0:au)(a1 a2:aA)(a3:au)(a4:aA):b kr a0 a1 a2 a3 a4=kr (v a0 a1 a2 a3 a4):=by first|rfl|(unfold b v;simp only[c8];(repeat' split)<;>rfl)
end IP

namespace vA
def r6(N:aG)(g k0:wN R)(a:aA)(d:au)(e f:aA):aD R:=bif decide (f<8)then bif decide (cF a 2=1)then g (bJ d_ (↑(dO (lH (b_ 32 (bJ d_ (cS a 2))) (b_ 32 3558460437))):aA)) d e (bM (f+1))else g (bJ d_ (cS a 2)) d e (bM (f+1))else k0 a d e f
def l6(N:aG)(k0:wN R):aG->wN R
 |0=>λ_ _ _ _=>ao
 |n+1=>r6 N (l6 N k0 n) k0
def r2(N:aG)(g k0:Ak R)(a:aA)(d:au)(e:aA):aD R:=bif decide (e<(d.size:aA))then bif decide (0<=e)&&decide (e<(d.size:aA))then l6 N (λf h i _=>g f h (bM (i+1))) N (bJ d_ (↑(dO (lH (b_ 32 a) (b_ 32 (bJ d_ (↑(iH d e.toNat):aA))))):aA)) d e 0 else ao else k0 a d e
def l2(N:aG)(k0:Ak R):aG->Ak R
 |0=>λ_ _ _=>ao
 |n+1=>r2 N (l2 N k0 n) k0
def b(N:aG)(kr:aA->aD R)(a:aA)(d:au):aD R:=l2 N (λe _ _=>kr e) N a d 0
def vo:=b Lib.c7 λr0=>aj r0
def c:=λa d=>(vo a d).isSome
def v:=λa d=>(vo a d).getD (0)
theorem out{x}:∀a d,vo a d=aj x->c a d=ak/\v a d=x:=λ_ _=>Lib.dy
end vA

namespace tQ
def b(kr:aA->aD R)(a:au):aD R:=bif vA.c 4294967295 a then kr (vA.v 4294967295 a)else ao
def vo:=b λr0=>aj r0
def c:=λa=>(vo a).isSome
def v:=λa=>(vo a).getD (0)
theorem out{x}:∀a,vo a=aj x->c a=ak/\v a=x:=λ_=>Lib.dy
end tQ

namespace qe
def b(kr:aA->aD R)(a:aA)(d:au):aD R:=bif decide (d.size+(bytesOf (aE (aT [Ck.i bk] 1) 0 [CV.i bk (bJ bk (bM (↑(dO (iZ (b_ 64 a) (b_ 64 255))):aA)))])).size<=4611686018427387904)then bif tQ.c (d++bytesOf (aE (aT [Ck.i bk] 1) 0 [CV.i bk (bJ bk (bM (↑(dO (iZ (b_ 64 a) (b_ 64 255))):aA)))]))then kr (cF (bM (tQ.v (d++bytesOf (aE (aT [Ck.i bk] 1) 0 [CV.i bk (bJ bk (bM (↑(dO (iZ (b_ 64 a) (b_ 64 255))):aA)))])))) 16)else ao else ao
def vo:=b λr0=>aj r0
def c:=λa d=>(vo a d).isSome
def v:=λa d=>(vo a d).getD (0)
theorem out{x}:∀a d,vo a d=aj x->c a d=ak/\v a d=x:=λ_ _=>Lib.dy
end qe

namespace nM
def r18(N:aG)(g k0:uo R)(a:aG)(d e f h i j:aA)(l:aX):aD R:=bif decide (h<f)then bif decide (0<=h)&&decide (h<((ju (aw l a 0)).length:aA))then bif decide (0<=h)&&decide (h<((ju (aw l a 0)).length:aA))then g a d e f (bM (h+1)) i j (eh l a 0 [CV.l 3 (eh (ju (aw l a 0)) h.toNat 0 [.i .i64 (bM (cS (bY (aw (ju (aw l a 0)) h.toNat 0)) 2))])])else ao else ao else k0 a d e f h i j l
def l18(N:aG)(k0:uo R):aG->uo R
 |0=>λ_ _ _ _ _ _ _ _=>ao
 |n+1=>r18 N (l18 N k0 n) k0
def r15(N:aG)(g k0:nQ R)(a d e f:aA)(h:aX):aD R:=bif decide (d<a)then bif decide (0<=d)&&decide (d<(h.length:aA))then l18 N (λ_ i j _ _ l m o=>g i (bM (j+1)) l m o) N d.toNat a d ((ju (aw h d.toNat 0)).length:aA) 0 e f h else ao else k0 a d e f h
def l15(N:aG)(k0:nQ R):aG->nQ R
 |0=>λ_ _ _ _ _=>ao
 |n+1=>r15 N (l15 N k0 n) k0
def r5(N:aG)(g k0:Am R)(a:au)(d e f h:aA)(i:aX):aD R:=bif decide (e<d)then bif decide (0<=e)&&decide (e<(i.length:aA))then bif qe.c e a then bif decide (0<=qe.v e a)&&decide (qe.v e a<((ju (aw i e.toNat 0)).length:aA))then bif decide (0<=qe.v e a)&&decide (qe.v e a<((ju (aw i e.toNat 0)).length:aA))then g a d (bM (e+1)) f h (eh i e.toNat 0 [CV.l 3 (eh (ju (aw i e.toNat 0)) (qe.v e a).toNat 0 [.i .i64 (k8 aq (bM (bY (aw (ju (aw i e.toNat 0)) (qe.v e a).toNat 0)+1)) 15)])])else ao else ao else ao else ao else k0 a d e f h i
def l5(N:aG)(k0:Am R):aG->Am R
 |0=>λ_ _ _ _ _ _=>ao
 |n+1=>r5 N (l5 N k0 n) k0
def b(N:aG)(kr:uq R)(a:aX)(d:aA)(e:au):aD R:=bif iV.c a d then bif o8.c a d then bif !o8.v a d then kr (iV.v a d).1 (iV.v a d).2 else l5 N (λ_ _ _ f h i=>bif decide (bM (h+1)<64)then kr i (bM (h+1))else l15 N (λ_ _ _ j l=>kr l j) N (i.length:aA) 0 f 0 i) N e ((iV.v a d).1.length:aA) 0 0 (iV.v a d).2 (iV.v a d).1 else ao else ao
def vo:=b Lib.c7 λr0 r1=>aj (r0,r1)
def c:=λa d e=>(vo a d e).isSome
def v:=λa d e=>(vo a d e).getD ([],0)
theorem out{x}:∀a d e,vo a d e=aj x->c a d e=ak/\v a d e=x:=λ_ _ _=>Lib.dy
end nM

namespace zn
def b(kr:aY->aD R)(a gq:au):aD R:=kr (dC (aL a) (aL gq))
def v(a0 gq:au):aY:=(dC (aL a0) (aL gq))
theorem fI(kr:aY->aD R)(a0 gq:au):b kr a0 gq=kr (v a0 gq):=by first|rfl|(unfold b v;simp only[c8];(repeat' split)<;>rfl)
end zn

namespace rO
def r2(N:aG)(g k0 k1:iG R)(a:aX)(d:au)(e f h:aA):aD R:=bif decide (h<f)then bif decide (0<=h)&&decide (h<(a.length:aA))then bif zn.v (bQ (aw a h.toNat 0)) d then k0 a d h f h else g a d e f (bM (h+1))else ao else k1 a d e f h
def l2(N:aG)(k0 k1:iG R):aG->iG R
 |0=>λ_ _ _ _ _=>ao
 |n+1=>r2 N (l2 N k0 k1 n) k0 k1
def b(N:aG)(kr:aA->aD R)(a:aX)(gq:au):aD R:=l2 N (λ_ _ d _ _=>kr d) (λ_ _ _ _ _=>kr (-1)) N a gq 0 (a.length:aA) 0
def vo:=b Lib.c7 λr0=>aj r0
def c:=λa d=>(vo a d).isSome
def v:=λa d=>(vo a d).getD (0)
theorem out{x}:∀a d,vo a d=aj x->c a d=ak/\v a d=x:=λ_ _=>Lib.dy
end rO

namespace vu
def r5(N:aG)(g k0:ny R)(a:au)(d e:aA)(f:aX):aD R:=bif decide (e<(f.length:aA))then bif decide (0<=e)&&decide (e<(f.length:aA))then bif !zn.v (bQ (aw f e.toNat 0)) a then bif decide (0<=d)&&decide (d<(f.length:aA))then g a (bM (d+1)) (bM (e+1)) (eh f d.toNat 0 [.s (bQ (aw f e.toNat 0))])else ao else g a d (bM (e+1)) f else ao else k0 a d e f
def l5(N:aG)(k0:ny R):aG->ny R
 |0=>λ_ _ _ _=>ao
 |n+1=>r5 N (l5 N k0 n) k0
def b(N:aG)(kr:aX->aD R)(a:aX)(gq:au):aD R:=bif rO.c a gq then bif decide (rO.v a gq=MD 1)then kr a else l5 N (λ_ d _ e=>bif iO d (e.length:aA) (e.length:aA)then bif iO 0 d ((i_ d.toNat e++aT [.s] ((e.length:aA).toNat-d.toNat)++pj (e.length:aA).toNat e).length:aA)then kr (eP (i_ d.toNat e++aT [.s] ((e.length:aA).toNat-d.toNat)++pj (e.length:aA).toNat e) (bc 0) d.toNat)else ao else ao) N gq (rO.v a gq) (bM (rO.v a gq+1)) a else ao
def vo:=b Lib.c7 λr0=>aj r0
def c:=λa d=>(vo a d).isSome
def v:=λa d=>(vo a d).getD ([])
theorem out{x}:∀a d,vo a d=aj x->c a d=ak/\v a d=x:=λ_ _=>Lib.dy
end vu

namespace jI
def b(kr:aX->aD R)(a:aX)(d:au):aD R:=bif sb.c a then bif vu.c (sb.v a) d then kr (vu.v (sb.v a) d)else ao else ao
def vo:=b λr0=>aj r0
def c:=λa d=>(vo a d).isSome
def v:=λa d=>(vo a d).getD ([])
theorem out{x}:∀a d,vo a d=aj x->c a d=ak/\v a d=x:=λ_ _=>Lib.dy
end jI

namespace uI
def r5(N:aG)(g k0:D0 R)(a:au)(d:aA)(e:aX)(f h:aA):aD R:=bif decide (h<f)then bif decide (0<=h)&&decide (h<(e.length:aA))then bif qe.c h a then bif decide (0<=qe.v h a)&&decide (qe.v h a<((ju (aw e h.toNat 0)).length:aA))then g a (k8 aq d (bY (aw (ju (aw e h.toNat 0)) (qe.v h a).toNat 0))) e f (bM (h+1))else ao else ao else ao else k0 a d e f h
def l5(N:aG)(k0:D0 R):aG->D0 R
 |0=>λ_ _ _ _ _=>ao
 |n+1=>r5 N (l5 N k0 n) k0
def b(N:aG)(kr:aA->aD R)(a:aX)(d:aA)(e:au):aD R:=bif o8.c a d then bif !o8.v a d then kr 0 else l5 N (λ_ f _ _ _=>kr f) N e 15 a (a.length:aA) 0 else ao
def vo:=b Lib.c7 λr0=>aj r0
def c:=λa d e=>(vo a d e).isSome
def v:=λa d e=>(vo a d e).getD (0)
theorem out{x}:∀a d e,vo a d e=aj x->c a d e=ak/\v a d e=x:=λ_ _ _=>Lib.dy
end uI

namespace MH
def b(kr:Kv R)(a d e:aX)(f:aA)(h:au):aD R:=bif i9.c a d e f then bif oF.c a d e f then bif !oF.v a d e f then kr (i9.v a d e f).1 (i9.v a d e f).2.1 (i9.v a d e f).2.2.1 (i9.v a d e f).2.2.2 ⟨#[]⟩else bif !MG.v h then kr (i9.v a d e f).1 (i9.v a d e f).2.1 (i9.v a d e f).2.2.1 (i9.v a d e f).2.2.2 ⟨#[]⟩else bif nM.c e f h then bif rM.c d h then bif rM.v d h then bif jI.c d h then bif cJ ((jI.v d h).length+(aE (aT [.s] 1) 0 [.s h]).length) 16 then kr (i9.v a d e f).1 (jI.v d h++aE (aT [.s] 1) 0 [.s h]) (nM.v e f h).1 (nM.v e f h).2 ⟨#[]⟩else ao else ao else bif jI.c a h then bif cJ ((jI.v a h).length+(aE (aT [.s] 1) 0 [.s h]).length) 16 then bif decide (((jI.v a h++aE (aT [.s] 1) 0 [.s h]).length:aA)<=2)then kr (jI.v a h++aE (aT [.s] 1) 0 [.s h]) (i9.v a d e f).2.1 (nM.v e f h).1 (nM.v e f h).2 ⟨#[]⟩else bif decide (0<((jI.v a h++aE (aT [.s] 1) 0 [.s h]).length:aA))then bif iO 1 ((jI.v a h++aE (aT [.s] 1) 0 [.s h]).length:aA) ((jI.v a h++aE (aT [.s] 1) 0 [.s h]).length:aA)then bif decide (((i9.v a d e f).2.1.length:aA)<4)then bif cJ ((i9.v a d e f).2.1.length+(aE (aT [.s] 1) 0 [.s (bQ (aw (jI.v a h++aE (aT [.s] 1) 0 [.s h]) (bc 0) 0))]).length) 16 then kr (eP (jI.v a h++aE (aT [.s] 1) 0 [.s h]) (bc 1) ((jI.v a h++aE (aT [.s] 1) 0 [.s h]).length:aA).toNat) ((i9.v a d e f).2.1++aE (aT [.s] 1) 0 [.s (bQ (aw (jI.v a h++aE (aT [.s] 1) 0 [.s h]) (bc 0) 0))]) (nM.v e f h).1 (nM.v e f h).2 ⟨#[]⟩else ao else bif decide (0<((i9.v a d e f).2.1.length:aA))then bif uI.c (nM.v e f h).1 (nM.v e f h).2 (bQ (aw (jI.v a h++aE (aT [.s] 1) 0 [.s h]) (bc 0) 0))then bif uI.c (nM.v e f h).1 (nM.v e f h).2 (bQ (aw (i9.v a d e f).2.1 (bc 0) 0))then bif decide (uI.v (nM.v e f h).1 (nM.v e f h).2 (bQ (aw (jI.v a h++aE (aT [.s] 1) 0 [.s h]) (bc 0) 0))>uI.v (nM.v e f h).1 (nM.v e f h).2 (bQ (aw (i9.v a d e f).2.1 (bc 0) 0)))then bif iO 1 ((i9.v a d e f).2.1.length:aA) ((i9.v a d e f).2.1.length:aA)then bif cJ ((eP (i9.v a d e f).2.1 (bc 1) ((i9.v a d e f).2.1.length:aA).toNat).length+(aE (aT [.s] 1) 0 [.s (bQ (aw (jI.v a h++aE (aT [.s] 1) 0 [.s h]) (bc 0) 0))]).length) 16 then kr (eP (jI.v a h++aE (aT [.s] 1) 0 [.s h]) (bc 1) ((jI.v a h++aE (aT [.s] 1) 0 [.s h]).length:aA).toNat) (eP (i9.v a d e f).2.1 (bc 1) ((i9.v a d e f).2.1.length:aA).toNat++aE (aT [.s] 1) 0 [.s (bQ (aw (jI.v a h++aE (aT [.s] 1) 0 [.s h]) (bc 0) 0))]) (nM.v e f h).1 (nM.v e f h).2 (bQ (aw (i9.v a d e f).2.1 (bc 0) 0))else ao else ao else kr (eP (jI.v a h++aE (aT [.s] 1) 0 [.s h]) (bc 1) ((jI.v a h++aE (aT [.s] 1) 0 [.s h]).length:aA).toNat) (i9.v a d e f).2.1 (nM.v e f h).1 (nM.v e f h).2 (bQ (aw (jI.v a h++aE (aT [.s] 1) 0 [.s h]) (bc 0) 0))else ao else ao else ao else ao else ao else ao else ao else ao else ao else ao else ao
def vo:=b λr0 r1 r2 r3 r4=>aj (r0,r1,r2,r3,r4)
def c:=λa d e f h=>(vo a d e f h).isSome
def v:=λa d e f h=>(vo a d e f h).getD ([],[],[],0,⟨#[]⟩)
theorem out{x}:∀a d e f h,vo a d e f h=aj x->c a d e f h=ak/\v a d e f h=x:=λ_ _ _ _ _=>Lib.dy
end MH


namespace po
def r2(N:aG)(g k0:je R)(a d e f h:aA)(i:au)(j l m:aA)(o:au)(p:aA)(q r s t u w:aX):aD R:=bif decide (a<(w.length:aA))then bif decide (0<=a)&&decide (a<(w.length:aA))then bif decide (bY (aw w a.toNat 0)<h)then g (bM (a+1)) d e f h i j l m o p q r s t u w else k0 a d e f h i j l m o p q r s t u w else ao else k0 a d e f h i j l m o p q r s t u w
def l2(N:aG)(k0:je R):aG->je R
 |0=>λ_ _ _ _ _ _ _ _ _ _ _ _ _ _ _ _ _=>ao
 |n+1=>r2 N (l2 N k0 n) k0
def b(N:aG)(kr:eJ R)(a:aA)(d e f h:aX)(i:aA)(j l:aX)(m o:aA)(p:au)(q r s:aA)(t:au)(u:aA):aD R:=l2 N (λw y z α xa xb xc xd xe xf xg xh xi xj xk xl xm=>bif decide (0<=w)&&decide (w<=(xm.length:aA))&&cJ (xm.length+(aE (aT [Ck.i ar,Ck.s,Ck.i ar,Ck.i ar,Ck.i ar,Ck.s,Ck.i ar] 1) 0 [.i .i64 xa, .s xb, .i .i64 xc, .i .i64 xd, .i .i64 xe, .s xf, .i .i64 xg]).length) 72 then kr y xh xi xj xk z xl (Pu.xW xm w.toNat (aE (aT [Ck.i ar,Ck.s,Ck.i ar,Ck.i ar,Ck.i ar,Ck.s,Ck.i ar] 1) 0 [.i .i64 xa, .s xb, .i .i64 xc, .i .i64 xd, .i .i64 xe, .s xf, .i .i64 xg])) α else ao) N 0 a i m o p q r s t u d e f h j l
def vo:=b Lib.c7 λr0 r1 r2 r3 r4 r5 r6 r7 r8=>aj (r0,r1,r2,r3,r4,r5,r6,r7,r8)
def c:=λa d e f h i j l m o p q r s t u=>(vo a d e f h i j l m o p q r s t u).isSome
def v:=λa d e f h i j l m o p q r s t u=>(vo a d e f h i j l m o p q r s t u).getD (0,[],[],[],[],0,[],[],0)
theorem out{x}:∀a d e f h i j l m o p q r s t u,vo a d e f h i j l m o p q r s t u=aj x->c a d e f h i j l m o p q r s t u=ak/\v a d e f h i j l m o p q r s t u=x:=λ_ _ _ _ _ _ _ _ _ _ _ _ _ _ _ _=>Lib.dy
end po

namespace oG
def r5(N:aG)(g k0:ny R)(a:au)(d e:aA)(f:aX):aD R:=bif decide (e<(f.length:aA))then bif decide (0<=e)&&decide (e<(f.length:aA))then bif !zk.v (bQ (aw f e.toNat 0)) (bY (aw f e.toNat 1)) (bY (aw f e.toNat (1+1))) (bQ (aw f e.toNat (1+1+1))) a then bif decide (0<=d)&&decide (d<(f.length:aA))then g a (bM (d+1)) (bM (e+1)) (eh f d.toNat 0 [.s (bQ (aw f e.toNat 0)), .i .i64 (bY (aw f e.toNat 1)), .i .i64 (bY (aw f e.toNat (1+1))), .s (bQ (aw f e.toNat (1+1+1)))])else ao else g a d (bM (e+1)) f else ao else k0 a d e f
def l5(N:aG)(k0:ny R):aG->ny R
 |0=>λ_ _ _ _=>ao
 |n+1=>r5 N (l5 N k0 n) k0
def b(N:aG)(kr:aX->aD R)(a:aX)(gq:au):aD R:=bif rP.c a gq then bif decide (rP.v a gq=MD 1)then kr a else l5 N (λ_ d _ e=>bif iO d (e.length:aA) (e.length:aA)then bif iO 0 d ((i_ d.toNat e++aT [Ck.s,Ck.i ar,Ck.i ar,Ck.s] ((e.length:aA).toNat-d.toNat)++pj (e.length:aA).toNat e).length:aA)then kr (eP (i_ d.toNat e++aT [Ck.s,Ck.i ar,Ck.i ar,Ck.s] ((e.length:aA).toNat-d.toNat)++pj (e.length:aA).toNat e) (bc 0) d.toNat)else ao else ao) N gq (rP.v a gq) (bM (rP.v a gq+1)) a else ao
def vo:=b Lib.c7 λr0=>aj r0
def c:=λa d=>(vo a d).isSome
def v:=λa d=>(vo a d).getD ([])
theorem out{x}:∀a d,vo a d=aj x->c a d=ak/\v a d=x:=λ_ _=>Lib.dy
end oG

namespace B6
def b(kr:aX->aD R)(a:aX)(d:au):aD R:=bif vt.c a then bif oG.c (vt.v a) d then kr (oG.v (vt.v a) d)else ao else ao
def vo:=b λr0=>aj r0
def c:=λa d=>(vo a d).isSome
def v:=λa d=>(vo a d).getD ([])
theorem out{x}:∀a d,vo a d=aj x->c a d=ak/\v a d=x:=λ_ _=>Lib.dy
end B6

namespace Ii
def b(kr:wO R)(a d e:aX)(f:aA)(h:au):aD R:=bif i9.c a d e f then bif jI.c a h then bif jI.c d h then kr (jI.v a h) (jI.v d h) (i9.v a d e f).2.2.1 (i9.v a d e f).2.2.2 else ao else ao else ao
def vo:=b λr0 r1 r2 r3=>aj (r0,r1,r2,r3)
def c:=λa d e f h=>(vo a d e f h).isSome
def v:=λa d e f h=>(vo a d e f h).getD ([],[],[],0)
theorem out{x}:∀a d e f h,vo a d e f h=aj x->c a d e f h=ak/\v a d e f h=x:=λ_ _ _ _ _=>Lib.dy
end Ii

namespace wG
def b(kr:vj R)(a:aA)(d e f h:aX)(i:aA)(j l:aX)(m o:aA)(p:au):aD R:=bif uO.c a d e f h i j l m then Lib.lt (uO.v a d e f h i j l m) λq=>bif ED.c a d e f h i j l m then Lib.lt (ED.v a d e f h i j l m) λr=>bif !r then kr q.1 q.2.1 q.2.2.1 q.2.2.2.1 q.2.2.2.2.1 q.2.2.2.2.2.1 q.2.2.2.2.2.2.1 q.2.2.2.2.2.2.2.1 q.2.2.2.2.2.2.2.2 1 else bif !oe.v o 1 9 then kr q.1 q.2.1 q.2.2.1 q.2.2.2.1 q.2.2.2.2.1 q.2.2.2.2.2.1 q.2.2.2.2.2.2.1 q.2.2.2.2.2.2.2.1 q.2.2.2.2.2.2.2.2 1 else bif !MG.v p then kr q.1 q.2.1 q.2.2.1 q.2.2.2.1 q.2.2.2.2.1 q.2.2.2.2.2.1 q.2.2.2.2.2.2.1 q.2.2.2.2.2.2.2.1 q.2.2.2.2.2.2.2.2 1 else bif TM.c a d e f h i j l m o then Lib.lt (TM.v a d e f h i j l m o) λs=>bif decide (s≥0)then kr q.1 q.2.1 q.2.2.1 q.2.2.2.1 q.2.2.2.2.1 q.2.2.2.2.2.1 q.2.2.2.2.2.2.1 q.2.2.2.2.2.2.2.1 q.2.2.2.2.2.2.2.2 1 else bif decide ((l.length:aA)=6)then kr q.1 q.2.1 q.2.2.1 q.2.2.2.1 q.2.2.2.2.1 q.2.2.2.2.2.1 q.2.2.2.2.2.2.1 q.2.2.2.2.2.2.2.1 q.2.2.2.2.2.2.2.2 1 else bif vE.c d p then Lib.lt (vE.v d p) λt=>bif decide (t≥0)then bif decide (0<=t)&&decide (t<(d.length:aA))then bif IP.v (bQ (aw d t.toNat 0)) (bY (aw d t.toNat 1)) (bY (aw d t.toNat (1+1))) (bQ (aw d t.toNat (1+1+1))) a then bif decide (0<=t)&&decide (t<(d.length:aA))then bif MH.c e f h i p then Lib.lt (MH.v e f h i p) λu=>bif po.c q.1 q.2.1 u.1 u.2.1 u.2.2.1 u.2.2.2.1 q.2.2.2.2.2.2.1 q.2.2.2.2.2.2.2.1 q.2.2.2.2.2.2.2.2 o p 0 (bY (aw d t.toNat 1)) 2 (bQ (aw d t.toNat (1+1+1))) (bM (a-bY (aw d t.toNat 1)))then Lib.lt (po.v q.1 q.2.1 u.1 u.2.1 u.2.2.1 u.2.2.2.1 q.2.2.2.2.2.2.1 q.2.2.2.2.2.2.2.1 q.2.2.2.2.2.2.2.2 o p 0 (bY (aw d t.toNat 1)) 2 (bQ (aw d t.toNat (1+1+1))) (bM (a-bY (aw d t.toNat 1)))) λw=>kr w.1 w.2.1 w.2.2.1 w.2.2.2.1 w.2.2.2.2.1 w.2.2.2.2.2.1 w.2.2.2.2.2.2.1 w.2.2.2.2.2.2.2.1 (k8 aq (bM (m+1)) 1000000000) 0 else ao else ao else ao else bif IQ.c a d e f h i j l m p then Lib.lt (IQ.v a d e f h i j l m p) λu=>bif decide (u<0)then bif decide ((j.length:aA)=20)then kr q.1 q.2.1 q.2.2.1 q.2.2.2.1 q.2.2.2.2.1 q.2.2.2.2.2.1 q.2.2.2.2.2.2.1 q.2.2.2.2.2.2.2.1 q.2.2.2.2.2.2.2.2 2 else bif decide (t≥0)then bif B6.c d p then Lib.lt (B6.v d p) λw=>bif Ii.c e f h i p then Lib.lt (Ii.v e f h i p) λy=>bif nM.c h i p then Lib.lt (nM.v h i p) λz=>bif decide (u<0)then bif cJ (q.2.2.2.2.2.2.1.length+(aE (aT [Ck.s,Ck.s,Ck.i ar,Ck.i ar,Ck.i ar] 1) 0 [.s p, .s ⟨#[]⟩, .i .i64 1, .i .i64 0, .i .i64 0]).length) 56 then bif decide ((j.length:aA)<((q.2.2.2.2.2.2.1++aE (aT [Ck.s,Ck.s,Ck.i ar,Ck.i ar,Ck.i ar] 1) 0 [.s p, .s ⟨#[]⟩, .i .i64 1, .i .i64 0, .i .i64 0]).length:aA))then bif po.c q.1 w y.1 y.2.1 z.1 z.2 (q.2.2.2.2.2.2.1++aE (aT [Ck.s,Ck.s,Ck.i ar,Ck.i ar,Ck.i ar] 1) 0 [.s p, .s ⟨#[]⟩, .i .i64 1, .i .i64 0, .i .i64 0]) q.2.2.2.2.2.2.2.1 q.2.2.2.2.2.2.2.2 o p (bM ((j.length:aA)+1)) 0 1 (bQ (aw (q.2.2.2.2.2.2.1++aE (aT [Ck.s,Ck.s,Ck.i ar,Ck.i ar,Ck.i ar] 1) 0 [.s p, .s ⟨#[]⟩, .i .i64 1, .i .i64 0, .i .i64 0]) (j.length:aA).toNat 1)) 0 then Lib.lt (po.v q.1 w y.1 y.2.1 z.1 z.2 (q.2.2.2.2.2.2.1++aE (aT [Ck.s,Ck.s,Ck.i ar,Ck.i ar,Ck.i ar] 1) 0 [.s p, .s ⟨#[]⟩, .i .i64 1, .i .i64 0, .i .i64 0]) q.2.2.2.2.2.2.2.1 q.2.2.2.2.2.2.2.2 o p (bM ((j.length:aA)+1)) 0 1 (bQ (aw (q.2.2.2.2.2.2.1++aE (aT [Ck.s,Ck.s,Ck.i ar,Ck.i ar,Ck.i ar] 1) 0 [.s p, .s ⟨#[]⟩, .i .i64 1, .i .i64 0, .i .i64 0]) (j.length:aA).toNat 1)) 0) λα=>kr α.1 α.2.1 α.2.2.1 α.2.2.2.1 α.2.2.2.2.1 α.2.2.2.2.2.1 α.2.2.2.2.2.2.1 α.2.2.2.2.2.2.2.1 α.2.2.2.2.2.2.2.2 0 else ao else ao else ao else bif decide (0<=u)&&decide (u<(q.2.2.2.2.2.2.1.length:aA))then bif po.c q.1 w y.1 y.2.1 z.1 z.2 q.2.2.2.2.2.2.1 q.2.2.2.2.2.2.2.1 q.2.2.2.2.2.2.2.2 o p (bM (u+1)) 0 1 (bQ (aw q.2.2.2.2.2.2.1 u.toNat 1)) 0 then Lib.lt (po.v q.1 w y.1 y.2.1 z.1 z.2 q.2.2.2.2.2.2.1 q.2.2.2.2.2.2.2.1 q.2.2.2.2.2.2.2.2 o p (bM (u+1)) 0 1 (bQ (aw q.2.2.2.2.2.2.1 u.toNat 1)) 0) λα=>kr α.1 α.2.1 α.2.2.1 α.2.2.2.1 α.2.2.2.2.1 α.2.2.2.2.2.1 α.2.2.2.2.2.2.1 α.2.2.2.2.2.2.2.1 α.2.2.2.2.2.2.2.2 0 else ao else ao else ao else ao else ao else bif nM.c h i p then Lib.lt (nM.v h i p) λw=>bif decide (u<0)then bif cJ (q.2.2.2.2.2.2.1.length+(aE (aT [Ck.s,Ck.s,Ck.i ar,Ck.i ar,Ck.i ar] 1) 0 [.s p, .s ⟨#[]⟩, .i .i64 1, .i .i64 0, .i .i64 0]).length) 56 then bif decide ((j.length:aA)<((q.2.2.2.2.2.2.1++aE (aT [Ck.s,Ck.s,Ck.i ar,Ck.i ar,Ck.i ar] 1) 0 [.s p, .s ⟨#[]⟩, .i .i64 1, .i .i64 0, .i .i64 0]).length:aA))then bif po.c q.1 q.2.1 q.2.2.1 q.2.2.2.1 w.1 w.2 (q.2.2.2.2.2.2.1++aE (aT [Ck.s,Ck.s,Ck.i ar,Ck.i ar,Ck.i ar] 1) 0 [.s p, .s ⟨#[]⟩, .i .i64 1, .i .i64 0, .i .i64 0]) q.2.2.2.2.2.2.2.1 q.2.2.2.2.2.2.2.2 o p (bM ((j.length:aA)+1)) 0 1 (bQ (aw (q.2.2.2.2.2.2.1++aE (aT [Ck.s,Ck.s,Ck.i ar,Ck.i ar,Ck.i ar] 1) 0 [.s p, .s ⟨#[]⟩, .i .i64 1, .i .i64 0, .i .i64 0]) (j.length:aA).toNat 1)) 0 then Lib.lt (po.v q.1 q.2.1 q.2.2.1 q.2.2.2.1 w.1 w.2 (q.2.2.2.2.2.2.1++aE (aT [Ck.s,Ck.s,Ck.i ar,Ck.i ar,Ck.i ar] 1) 0 [.s p, .s ⟨#[]⟩, .i .i64 1, .i .i64 0, .i .i64 0]) q.2.2.2.2.2.2.2.1 q.2.2.2.2.2.2.2.2 o p (bM ((j.length:aA)+1)) 0 1 (bQ (aw (q.2.2.2.2.2.2.1++aE (aT [Ck.s,Ck.s,Ck.i ar,Ck.i ar,Ck.i ar] 1) 0 [.s p, .s ⟨#[]⟩, .i .i64 1, .i .i64 0, .i .i64 0]) (j.length:aA).toNat 1)) 0) λy=>kr y.1 y.2.1 y.2.2.1 y.2.2.2.1 y.2.2.2.2.1 y.2.2.2.2.2.1 y.2.2.2.2.2.2.1 y.2.2.2.2.2.2.2.1 y.2.2.2.2.2.2.2.2 0 else ao else ao else ao else bif decide (0<=u)&&decide (u<(q.2.2.2.2.2.2.1.length:aA))then bif po.c q.1 q.2.1 q.2.2.1 q.2.2.2.1 w.1 w.2 q.2.2.2.2.2.2.1 q.2.2.2.2.2.2.2.1 q.2.2.2.2.2.2.2.2 o p (bM (u+1)) 0 1 (bQ (aw q.2.2.2.2.2.2.1 u.toNat 1)) 0 then Lib.lt (po.v q.1 q.2.1 q.2.2.1 q.2.2.2.1 w.1 w.2 q.2.2.2.2.2.2.1 q.2.2.2.2.2.2.2.1 q.2.2.2.2.2.2.2.2 o p (bM (u+1)) 0 1 (bQ (aw q.2.2.2.2.2.2.1 u.toNat 1)) 0) λy=>kr y.1 y.2.1 y.2.2.1 y.2.2.2.1 y.2.2.2.2.1 y.2.2.2.2.2.1 y.2.2.2.2.2.2.1 y.2.2.2.2.2.2.2.1 y.2.2.2.2.2.2.2.2 0 else ao else ao else ao else bif decide (t≥0)then bif B6.c d p then Lib.lt (B6.v d p) λw=>bif Ii.c e f h i p then Lib.lt (Ii.v e f h i p) λy=>bif nM.c h i p then Lib.lt (nM.v h i p) λz=>bif decide (u<0)then bif cJ (q.2.2.2.2.2.2.1.length+(aE (aT [Ck.s,Ck.s,Ck.i ar,Ck.i ar,Ck.i ar] 1) 0 [.s p, .s ⟨#[]⟩, .i .i64 1, .i .i64 0, .i .i64 0]).length) 56 then bif decide ((j.length:aA)<((q.2.2.2.2.2.2.1++aE (aT [Ck.s,Ck.s,Ck.i ar,Ck.i ar,Ck.i ar] 1) 0 [.s p, .s ⟨#[]⟩, .i .i64 1, .i .i64 0, .i .i64 0]).length:aA))then bif po.c q.1 w y.1 y.2.1 z.1 z.2 (q.2.2.2.2.2.2.1++aE (aT [Ck.s,Ck.s,Ck.i ar,Ck.i ar,Ck.i ar] 1) 0 [.s p, .s ⟨#[]⟩, .i .i64 1, .i .i64 0, .i .i64 0]) q.2.2.2.2.2.2.2.1 q.2.2.2.2.2.2.2.2 o p (bM ((j.length:aA)+1)) 0 1 (bQ (aw (q.2.2.2.2.2.2.1++aE (aT [Ck.s,Ck.s,Ck.i ar,Ck.i ar,Ck.i ar] 1) 0 [.s p, .s ⟨#[]⟩, .i .i64 1, .i .i64 0, .i .i64 0]) (j.length:aA).toNat 1)) 0 then Lib.lt (po.v q.1 w y.1 y.2.1 z.1 z.2 (q.2.2.2.2.2.2.1++aE (aT [Ck.s,Ck.s,Ck.i ar,Ck.i ar,Ck.i ar] 1) 0 [.s p, .s ⟨#[]⟩, .i .i64 1, .i .i64 0, .i .i64 0]) q.2.2.2.2.2.2.2.1 q.2.2.2.2.2.2.2.2 o p (bM ((j.length:aA)+1)) 0 1 (bQ (aw (q.2.2.2.2.2.2.1++aE (aT [Ck.s,Ck.s,Ck.i ar,Ck.i ar,Ck.i ar] 1) 0 [.s p, .s ⟨#[]⟩, .i .i64 1, .i .i64 0, .i .i64 0]) (j.length:aA).toNat 1)) 0) λα=>kr α.1 α.2.1 α.2.2.1 α.2.2.2.1 α.2.2.2.2.1 α.2.2.2.2.2.1 α.2.2.2.2.2.2.1 α.2.2.2.2.2.2.2.1 α.2.2.2.2.2.2.2.2 0 else ao else ao else ao else bif decide (0<=u)&&decide (u<(q.2.2.2.2.2.2.1.length:aA))then bif po.c q.1 w y.1 y.2.1 z.1 z.2 q.2.2.2.2.2.2.1 q.2.2.2.2.2.2.2.1 q.2.2.2.2.2.2.2.2 o p (bM (u+1)) 0 1 (bQ (aw q.2.2.2.2.2.2.1 u.toNat 1)) 0 then Lib.lt (po.v q.1 w y.1 y.2.1 z.1 z.2 q.2.2.2.2.2.2.1 q.2.2.2.2.2.2.2.1 q.2.2.2.2.2.2.2.2 o p (bM (u+1)) 0 1 (bQ (aw q.2.2.2.2.2.2.1 u.toNat 1)) 0) λα=>kr α.1 α.2.1 α.2.2.1 α.2.2.2.1 α.2.2.2.2.1 α.2.2.2.2.2.1 α.2.2.2.2.2.2.1 α.2.2.2.2.2.2.2.1 α.2.2.2.2.2.2.2.2 0 else ao else ao else ao else ao else ao else bif nM.c h i p then Lib.lt (nM.v h i p) λw=>bif decide (u<0)then bif cJ (q.2.2.2.2.2.2.1.length+(aE (aT [Ck.s,Ck.s,Ck.i ar,Ck.i ar,Ck.i ar] 1) 0 [.s p, .s ⟨#[]⟩, .i .i64 1, .i .i64 0, .i .i64 0]).length) 56 then bif decide ((j.length:aA)<((q.2.2.2.2.2.2.1++aE (aT [Ck.s,Ck.s,Ck.i ar,Ck.i ar,Ck.i ar] 1) 0 [.s p, .s ⟨#[]⟩, .i .i64 1, .i .i64 0, .i .i64 0]).length:aA))then bif po.c q.1 q.2.1 q.2.2.1 q.2.2.2.1 w.1 w.2 (q.2.2.2.2.2.2.1++aE (aT [Ck.s,Ck.s,Ck.i ar,Ck.i ar,Ck.i ar] 1) 0 [.s p, .s ⟨#[]⟩, .i .i64 1, .i .i64 0, .i .i64 0]) q.2.2.2.2.2.2.2.1 q.2.2.2.2.2.2.2.2 o p (bM ((j.length:aA)+1)) 0 1 (bQ (aw (q.2.2.2.2.2.2.1++aE (aT [Ck.s,Ck.s,Ck.i ar,Ck.i ar,Ck.i ar] 1) 0 [.s p, .s ⟨#[]⟩, .i .i64 1, .i .i64 0, .i .i64 0]) (j.length:aA).toNat 1)) 0 then Lib.lt (po.v q.1 q.2.1 q.2.2.1 q.2.2.2.1 w.1 w.2 (q.2.2.2.2.2.2.1++aE (aT [Ck.s,Ck.s,Ck.i ar,Ck.i ar,Ck.i ar] 1) 0 [.s p, .s ⟨#[]⟩, .i .i64 1, .i .i64 0, .i .i64 0]) q.2.2.2.2.2.2.2.1 q.2.2.2.2.2.2.2.2 o p (bM ((j.length:aA)+1)) 0 1 (bQ (aw (q.2.2.2.2.2.2.1++aE (aT [Ck.s,Ck.s,Ck.i ar,Ck.i ar,Ck.i ar] 1) 0 [.s p, .s ⟨#[]⟩, .i .i64 1, .i .i64 0, .i .i64 0]) (j.length:aA).toNat 1)) 0) λy=>kr y.1 y.2.1 y.2.2.1 y.2.2.2.1 y.2.2.2.2.1 y.2.2.2.2.2.1 y.2.2.2.2.2.2.1 y.2.2.2.2.2.2.2.1 y.2.2.2.2.2.2.2.2 0 else ao else ao else ao else bif decide (0<=u)&&decide (u<(q.2.2.2.2.2.2.1.length:aA))then bif po.c q.1 q.2.1 q.2.2.1 q.2.2.2.1 w.1 w.2 q.2.2.2.2.2.2.1 q.2.2.2.2.2.2.2.1 q.2.2.2.2.2.2.2.2 o p (bM (u+1)) 0 1 (bQ (aw q.2.2.2.2.2.2.1 u.toNat 1)) 0 then Lib.lt (po.v q.1 q.2.1 q.2.2.1 q.2.2.2.1 w.1 w.2 q.2.2.2.2.2.2.1 q.2.2.2.2.2.2.2.1 q.2.2.2.2.2.2.2.2 o p (bM (u+1)) 0 1 (bQ (aw q.2.2.2.2.2.2.1 u.toNat 1)) 0) λy=>kr y.1 y.2.1 y.2.2.1 y.2.2.2.1 y.2.2.2.2.1 y.2.2.2.2.2.1 y.2.2.2.2.2.2.1 y.2.2.2.2.2.2.2.1 y.2.2.2.2.2.2.2.2 0 else ao else ao else ao else ao else ao else bif IQ.c a d e f h i j l m p then Lib.lt (IQ.v a d e f h i j l m p) λu=>bif decide (u<0)then bif decide ((j.length:aA)=20)then kr q.1 q.2.1 q.2.2.1 q.2.2.2.1 q.2.2.2.2.1 q.2.2.2.2.2.1 q.2.2.2.2.2.2.1 q.2.2.2.2.2.2.2.1 q.2.2.2.2.2.2.2.2 2 else bif decide (t≥0)then bif B6.c d p then Lib.lt (B6.v d p) λw=>bif Ii.c e f h i p then Lib.lt (Ii.v e f h i p) λy=>bif nM.c h i p then Lib.lt (nM.v h i p) λz=>bif decide (u<0)then bif cJ (q.2.2.2.2.2.2.1.length+(aE (aT [Ck.s,Ck.s,Ck.i ar,Ck.i ar,Ck.i ar] 1) 0 [.s p, .s ⟨#[]⟩, .i .i64 1, .i .i64 0, .i .i64 0]).length) 56 then bif decide ((j.length:aA)<((q.2.2.2.2.2.2.1++aE (aT [Ck.s,Ck.s,Ck.i ar,Ck.i ar,Ck.i ar] 1) 0 [.s p, .s ⟨#[]⟩, .i .i64 1, .i .i64 0, .i .i64 0]).length:aA))then bif po.c q.1 w y.1 y.2.1 z.1 z.2 (q.2.2.2.2.2.2.1++aE (aT [Ck.s,Ck.s,Ck.i ar,Ck.i ar,Ck.i ar] 1) 0 [.s p, .s ⟨#[]⟩, .i .i64 1, .i .i64 0, .i .i64 0]) q.2.2.2.2.2.2.2.1 q.2.2.2.2.2.2.2.2 o p (bM ((j.length:aA)+1)) 0 1 (bQ (aw (q.2.2.2.2.2.2.1++aE (aT [Ck.s,Ck.s,Ck.i ar,Ck.i ar,Ck.i ar] 1) 0 [.s p, .s ⟨#[]⟩, .i .i64 1, .i .i64 0, .i .i64 0]) (j.length:aA).toNat 1)) 0 then Lib.lt (po.v q.1 w y.1 y.2.1 z.1 z.2 (q.2.2.2.2.2.2.1++aE (aT [Ck.s,Ck.s,Ck.i ar,Ck.i ar,Ck.i ar] 1) 0 [.s p, .s ⟨#[]⟩, .i .i64 1, .i .i64 0, .i .i64 0]) q.2.2.2.2.2.2.2.1 q.2.2.2.2.2.2.2.2 o p (bM ((j.length:aA)+1)) 0 1 (bQ (aw (q.2.2.2.2.2.2.1++aE (aT [Ck.s,Ck.s,Ck.i ar,Ck.i ar,Ck.i ar] 1) 0 [.s p, .s ⟨#[]⟩, .i .i64 1, .i .i64 0, .i .i64 0]) (j.length:aA).toNat 1)) 0) λα=>kr α.1 α.2.1 α.2.2.1 α.2.2.2.1 α.2.2.2.2.1 α.2.2.2.2.2.1 α.2.2.2.2.2.2.1 α.2.2.2.2.2.2.2.1 α.2.2.2.2.2.2.2.2 0 else ao else ao else ao else bif decide (0<=u)&&decide (u<(q.2.2.2.2.2.2.1.length:aA))then bif po.c q.1 w y.1 y.2.1 z.1 z.2 q.2.2.2.2.2.2.1 q.2.2.2.2.2.2.2.1 q.2.2.2.2.2.2.2.2 o p (bM (u+1)) 0 1 (bQ (aw q.2.2.2.2.2.2.1 u.toNat 1)) 0 then Lib.lt (po.v q.1 w y.1 y.2.1 z.1 z.2 q.2.2.2.2.2.2.1 q.2.2.2.2.2.2.2.1 q.2.2.2.2.2.2.2.2 o p (bM (u+1)) 0 1 (bQ (aw q.2.2.2.2.2.2.1 u.toNat 1)) 0) λα=>kr α.1 α.2.1 α.2.2.1 α.2.2.2.1 α.2.2.2.2.1 α.2.2.2.2.2.1 α.2.2.2.2.2.2.1 α.2.2.2.2.2.2.2.1 α.2.2.2.2.2.2.2.2 0 else ao else ao else ao else ao else ao else bif nM.c h i p then Lib.lt (nM.v h i p) λw=>bif decide (u<0)then bif cJ (q.2.2.2.2.2.2.1.length+(aE (aT [Ck.s,Ck.s,Ck.i ar,Ck.i ar,Ck.i ar] 1) 0 [.s p, .s ⟨#[]⟩, .i .i64 1, .i .i64 0, .i .i64 0]).length) 56 then bif decide ((j.length:aA)<((q.2.2.2.2.2.2.1++aE (aT [Ck.s,Ck.s,Ck.i ar,Ck.i ar,Ck.i ar] 1) 0 [.s p, .s ⟨#[]⟩, .i .i64 1, .i .i64 0, .i .i64 0]).length:aA))then bif po.c q.1 q.2.1 q.2.2.1 q.2.2.2.1 w.1 w.2 (q.2.2.2.2.2.2.1++aE (aT [Ck.s,Ck.s,Ck.i ar,Ck.i ar,Ck.i ar] 1) 0 [.s p, .s ⟨#[]⟩, .i .i64 1, .i .i64 0, .i .i64 0]) q.2.2.2.2.2.2.2.1 q.2.2.2.2.2.2.2.2 o p (bM ((j.length:aA)+1)) 0 1 (bQ (aw (q.2.2.2.2.2.2.1++aE (aT [Ck.s,Ck.s,Ck.i ar,Ck.i ar,Ck.i ar] 1) 0 [.s p, .s ⟨#[]⟩, .i .i64 1, .i .i64 0, .i .i64 0]) (j.length:aA).toNat 1)) 0 then Lib.lt (po.v q.1 q.2.1 q.2.2.1 q.2.2.2.1 w.1 w.2 (q.2.2.2.2.2.2.1++aE (aT [Ck.s,Ck.s,Ck.i ar,Ck.i ar,Ck.i ar] 1) 0 [.s p, .s ⟨#[]⟩, .i .i64 1, .i .i64 0, .i .i64 0]) q.2.2.2.2.2.2.2.1 q.2.2.2.2.2.2.2.2 o p (bM ((j.length:aA)+1)) 0 1 (bQ (aw (q.2.2.2.2.2.2.1++aE (aT [Ck.s,Ck.s,Ck.i ar,Ck.i ar,Ck.i ar] 1) 0 [.s p, .s ⟨#[]⟩, .i .i64 1, .i .i64 0, .i .i64 0]) (j.length:aA).toNat 1)) 0) λy=>kr y.1 y.2.1 y.2.2.1 y.2.2.2.1 y.2.2.2.2.1 y.2.2.2.2.2.1 y.2.2.2.2.2.2.1 y.2.2.2.2.2.2.2.1 y.2.2.2.2.2.2.2.2 0 else ao else ao else ao else bif decide (0<=u)&&decide (u<(q.2.2.2.2.2.2.1.length:aA))then bif po.c q.1 q.2.1 q.2.2.1 q.2.2.2.1 w.1 w.2 q.2.2.2.2.2.2.1 q.2.2.2.2.2.2.2.1 q.2.2.2.2.2.2.2.2 o p (bM (u+1)) 0 1 (bQ (aw q.2.2.2.2.2.2.1 u.toNat 1)) 0 then Lib.lt (po.v q.1 q.2.1 q.2.2.1 q.2.2.2.1 w.1 w.2 q.2.2.2.2.2.2.1 q.2.2.2.2.2.2.2.1 q.2.2.2.2.2.2.2.2 o p (bM (u+1)) 0 1 (bQ (aw q.2.2.2.2.2.2.1 u.toNat 1)) 0) λy=>kr y.1 y.2.1 y.2.2.1 y.2.2.2.1 y.2.2.2.2.1 y.2.2.2.2.2.1 y.2.2.2.2.2.2.1 y.2.2.2.2.2.2.2.1 y.2.2.2.2.2.2.2.2 0 else ao else ao else ao else bif decide (t≥0)then bif B6.c d p then Lib.lt (B6.v d p) λw=>bif Ii.c e f h i p then Lib.lt (Ii.v e f h i p) λy=>bif nM.c h i p then Lib.lt (nM.v h i p) λz=>bif decide (u<0)then bif cJ (q.2.2.2.2.2.2.1.length+(aE (aT [Ck.s,Ck.s,Ck.i ar,Ck.i ar,Ck.i ar] 1) 0 [.s p, .s ⟨#[]⟩, .i .i64 1, .i .i64 0, .i .i64 0]).length) 56 then bif decide ((j.length:aA)<((q.2.2.2.2.2.2.1++aE (aT [Ck.s,Ck.s,Ck.i ar,Ck.i ar,Ck.i ar] 1) 0 [.s p, .s ⟨#[]⟩, .i .i64 1, .i .i64 0, .i .i64 0]).length:aA))then bif po.c q.1 w y.1 y.2.1 z.1 z.2 (q.2.2.2.2.2.2.1++aE (aT [Ck.s,Ck.s,Ck.i ar,Ck.i ar,Ck.i ar] 1) 0 [.s p, .s ⟨#[]⟩, .i .i64 1, .i .i64 0, .i .i64 0]) q.2.2.2.2.2.2.2.1 q.2.2.2.2.2.2.2.2 o p (bM ((j.length:aA)+1)) 0 1 (bQ (aw (q.2.2.2.2.2.2.1++aE (aT [Ck.s,Ck.s,Ck.i ar,Ck.i ar,Ck.i ar] 1) 0 [.s p, .s ⟨#[]⟩, .i .i64 1, .i .i64 0, .i .i64 0]) (j.length:aA).toNat 1)) 0 then Lib.lt (po.v q.1 w y.1 y.2.1 z.1 z.2 (q.2.2.2.2.2.2.1++aE (aT [Ck.s,Ck.s,Ck.i ar,Ck.i ar,Ck.i ar] 1) 0 [.s p, .s ⟨#[]⟩, .i .i64 1, .i .i64 0, .i .i64 0]) q.2.2.2.2.2.2.2.1 q.2.2.2.2.2.2.2.2 o p (bM ((j.length:aA)+1)) 0 1 (bQ (aw (q.2.2.2.2.2.2.1++aE (aT [Ck.s,Ck.s,Ck.i ar,Ck.i ar,Ck.i ar] 1) 0 [.s p, .s ⟨#[]⟩, .i .i64 1, .i .i64 0, .i .i64 0]) (j.length:aA).toNat 1)) 0) λα=>kr α.1 α.2.1 α.2.2.1 α.2.2.2.1 α.2.2.2.2.1 α.2.2.2.2.2.1 α.2.2.2.2.2.2.1 α.2.2.2.2.2.2.2.1 α.2.2.2.2.2.2.2.2 0 else ao else ao else ao else bif decide (0<=u)&&decide (u<(q.2.2.2.2.2.2.1.length:aA))then bif po.c q.1 w y.1 y.2.1 z.1 z.2 q.2.2.2.2.2.2.1 q.2.2.2.2.2.2.2.1 q.2.2.2.2.2.2.2.2 o p (bM (u+1)) 0 1 (bQ (aw q.2.2.2.2.2.2.1 u.toNat 1)) 0 then Lib.lt (po.v q.1 w y.1 y.2.1 z.1 z.2 q.2.2.2.2.2.2.1 q.2.2.2.2.2.2.2.1 q.2.2.2.2.2.2.2.2 o p (bM (u+1)) 0 1 (bQ (aw q.2.2.2.2.2.2.1 u.toNat 1)) 0) λα=>kr α.1 α.2.1 α.2.2.1 α.2.2.2.1 α.2.2.2.2.1 α.2.2.2.2.2.1 α.2.2.2.2.2.2.1 α.2.2.2.2.2.2.2.1 α.2.2.2.2.2.2.2.2 0 else ao else ao else ao else ao else ao else bif nM.c h i p then Lib.lt (nM.v h i p) λw=>bif decide (u<0)then bif cJ (q.2.2.2.2.2.2.1.length+(aE (aT [Ck.s,Ck.s,Ck.i ar,Ck.i ar,Ck.i ar] 1) 0 [.s p, .s ⟨#[]⟩, .i .i64 1, .i .i64 0, .i .i64 0]).length) 56 then bif decide ((j.length:aA)<((q.2.2.2.2.2.2.1++aE (aT [Ck.s,Ck.s,Ck.i ar,Ck.i ar,Ck.i ar] 1) 0 [.s p, .s ⟨#[]⟩, .i .i64 1, .i .i64 0, .i .i64 0]).length:aA))then bif po.c q.1 q.2.1 q.2.2.1 q.2.2.2.1 w.1 w.2 (q.2.2.2.2.2.2.1++aE (aT [Ck.s,Ck.s,Ck.i ar,Ck.i ar,Ck.i ar] 1) 0 [.s p, .s ⟨#[]⟩, .i .i64 1, .i .i64 0, .i .i64 0]) q.2.2.2.2.2.2.2.1 q.2.2.2.2.2.2.2.2 o p (bM ((j.length:aA)+1)) 0 1 (bQ (aw (q.2.2.2.2.2.2.1++aE (aT [Ck.s,Ck.s,Ck.i ar,Ck.i ar,Ck.i ar] 1) 0 [.s p, .s ⟨#[]⟩, .i .i64 1, .i .i64 0, .i .i64 0]) (j.length:aA).toNat 1)) 0 then Lib.lt (po.v q.1 q.2.1 q.2.2.1 q.2.2.2.1 w.1 w.2 (q.2.2.2.2.2.2.1++aE (aT [Ck.s,Ck.s,Ck.i ar,Ck.i ar,Ck.i ar] 1) 0 [.s p, .s ⟨#[]⟩, .i .i64 1, .i .i64 0, .i .i64 0]) q.2.2.2.2.2.2.2.1 q.2.2.2.2.2.2.2.2 o p (bM ((j.length:aA)+1)) 0 1 (bQ (aw (q.2.2.2.2.2.2.1++aE (aT [Ck.s,Ck.s,Ck.i ar,Ck.i ar,Ck.i ar] 1) 0 [.s p, .s ⟨#[]⟩, .i .i64 1, .i .i64 0, .i .i64 0]) (j.length:aA).toNat 1)) 0) λy=>kr y.1 y.2.1 y.2.2.1 y.2.2.2.1 y.2.2.2.2.1 y.2.2.2.2.2.1 y.2.2.2.2.2.2.1 y.2.2.2.2.2.2.2.1 y.2.2.2.2.2.2.2.2 0 else ao else ao else ao else bif decide (0<=u)&&decide (u<(q.2.2.2.2.2.2.1.length:aA))then bif po.c q.1 q.2.1 q.2.2.1 q.2.2.2.1 w.1 w.2 q.2.2.2.2.2.2.1 q.2.2.2.2.2.2.2.1 q.2.2.2.2.2.2.2.2 o p (bM (u+1)) 0 1 (bQ (aw q.2.2.2.2.2.2.1 u.toNat 1)) 0 then Lib.lt (po.v q.1 q.2.1 q.2.2.1 q.2.2.2.1 w.1 w.2 q.2.2.2.2.2.2.1 q.2.2.2.2.2.2.2.1 q.2.2.2.2.2.2.2.2 o p (bM (u+1)) 0 1 (bQ (aw q.2.2.2.2.2.2.1 u.toNat 1)) 0) λy=>kr y.1 y.2.1 y.2.2.1 y.2.2.2.1 y.2.2.2.2.1 y.2.2.2.2.2.1 y.2.2.2.2.2.2.1 y.2.2.2.2.2.2.2.1 y.2.2.2.2.2.2.2.2 0 else ao else ao else ao else ao else ao else ao else ao else ao
def vo:=b λr0 r1 r2 r3 r4 r5 r6 r7 r8 r9=>aj (r0,r1,r2,r3,r4,r5,r6,r7,r8,r9)
def c:=λa d e f h i j l m o p=>(vo a d e f h i j l m o p).isSome
def v:=λa d e f h i j l m o p=>(vo a d e f h i j l m o p).getD (0,[],[],[],[],0,[],[],0,0)
theorem out{x}:∀a d e f h i j l m o p,vo a d e f h i j l m o p=aj x->c a d e f h i j l m o p=ak/\v a d e f h i j l m o p=x:=λ_ _ _ _ _ _ _ _ _ _ _=>Lib.dy
end wG

namespace tL
def b(kr:aY->aD R)(a:aA)(d e f h:aX)(i:aA)(j l:aX)(m o:aA):aD R:=bif ED.c a d e f h i j l m then bif ED.v a d e f h i j l m then kr (oe.v o 0 (bM ((j.length:aA)-1)))else kr aq else ao
def vo:=b λr0=>aj r0
def c:=λa d e f h i j l m o=>(vo a d e f h i j l m o).isSome
def v:=λa d e f h i j l m o=>(vo a d e f h i j l m o).getD aq
theorem out{x}:∀a d e f h i j l m o,vo a d e f h i j l m o=aj x->c a d e f h i j l m o=ak/\v a d e f h i j l m o=x:=λ_ _ _ _ _ _ _ _ _ _=>Lib.dy
end tL

namespace IJ
def b(kr:Al R)(a:aA)(d:au)(e:aX):aD R:=bif cJ ((aT [Ck.i ar,Ck.i ar] 0).length+e.length) 16 then kr a d (aT [Ck.i ar,Ck.i ar] 0++e)else ao
def v(fJ:aA)(eH:au)(dv:aX):aA×au×aX:=(fJ,eH,dv)
def c(fJ:aA)(eH:au)(dv:aX):aY:=decide (dv.length<=4294967296)
theorem fI(kr:Al R)(fJ:aA)(eH:au)(dv:aX)(hc:c fJ eH dv=ak):b kr fJ eH dv=kr (v fJ eH dv).1 (v fJ eH dv).2.1 (v fJ eH dv).2.2:=by have h:dv.length<=4294967296:=b9 hc;unfold b;rw[show bW (aT [Ck.i ar,Ck.i ar] 0)+dv.length=dv.length by simp[aT],Lib.cy (by omega) (by omega)];rfl
end IJ

namespace Gv
def r2(N:aG)(g k0 k1:wM R)(a:aY)(d:aX)(e f h:aA)(i:au)(j:aX):aD R:=bif decide (f<e)then bif decide (0<=f)&&decide (f<(d.length:aA))then bif !oe.v (bY (aw d f.toNat 0)) 1 9 then k0 aq d e f h i j else bif !oe.v (bY (aw d f.toNat 1)) 0 (i.size:aA)then k0 aq d e f h i j else bif decide (f>0)then bif decide (0<=bM (f-1))&&decide (bM (f-1)<(j.length:aA))then bif decide (bY (aw j (bM (f-1)).toNat 0)≥bY (aw d f.toNat 0))then k0 aq d e f h i j else g a d e (bM (f+1)) h i j else ao else g a d e (bM (f+1)) h i j else ao else k1 a d e f h i j
def l2(N:aG)(k0 k1:wM R):aG->wM R
 |0=>λ_ _ _ _ _ _ _=>ao
 |n+1=>r2 N (l2 N k0 k1 n) k0 k1
def b(N:aG)(kr:aY->aD R)(a:aA)(d:au)(e:aX):aD R:=l2 N (λf _ _ _ _ _ _=>kr f) (λ_ _ _ _ f h i=>bif oe.v f 1 3 then bif decide ((h.size:aA)<=400)then kr (decide ((i.length:aA)<=6))else kr aq else kr aq) N aq e (e.length:aA) 0 a d e
def v(fJ:aA)(eH:au)(dv:aX):aY:=(cM dv.length).all (kY.el eH dv)&&kY.rest fJ eH dv
theorem fI(kr:aY->aD R)(fJ:aA)(eH:au)(dv:aX)(f0:Gc eH)(f1:uw dv):∃N,b N kr fJ eH dv=kr (v fJ eH dv):=by
 refine⟨dv.length+1, ?_⟩
 unfold b;have ew:oe.v=kG.v:=rfl;simp only[ew,kY.LZ]
 have:=Lib.ij (λn (i:aG)=>l2 (dv.length+1) (λy7 y8 y9 Mr yE Oj Gf=>kr y7) (λW8 W9 Tq FN FP Ca tD=>kr (kY.rest FP Ca tD)) n aq dv dv.length i fJ eH dv) (λi=>dv.length-i) (λi=>i<=dv.length)
  (λi=>kr ((lJ i (dv.length-i)).all (kY.el eH dv)&&kY.rest fJ eH dv)) (λn i hi=>by
  simp only[l2,r2,ew,Lib.dB,Lib.cR,Lib.eB,bj,kY.mr]
  by_cases h:i<dv.length
  ·rw[kY.GD _ h];simp only[h,aR,ay,Lib.db h f1.1];cases h1:decide (1<=bY (aw dv i 0)/\bY (aw dv i 0)<=9)with
   |false=>left;simp[kY.el,h1]
   |true=>
    simp only[ba,aC];cases h3:decide (0<=bY (aw dv i 1)/\bY (aw dv i 1)<=eH.size)with
    |false=>left;simp[kY.el,h3]
    |true=>
     simp only[ba,aC];by_cases hz:0<i
     ·have e0:decide ((i:aA)>0)=true:=by simp;omega
      have hp:i-1<dv.length:=by omega
      have hi0:(i==0)=false:=by simp;omega
      simp only[e0,ay,kY.BT hz (by have:=f1.1;omega),Lib.cR,Lib.dB,Lib.eB,hp,aR,aP];cases h2:decide (bY (aw dv (i-1) 0)≥bY (aw dv i 0))with
      |true=>
       left;have e3:decide (bY (aw dv (i-1) 0)<bY (aw dv i 0))=false:=by simp at h2⊢;omega
       simp[kY.el,e3,hi0]
      |false=>
       have e3:decide (bY (aw dv (i-1) 0)<bY (aw dv i 0))=true:=by simp at h2⊢;omega
       right;exact⟨i+1,h,by omega,by simp only[kY.el,h1,h3,e3,Iw,bj],rfl⟩
     ·have hz:i=0:=by omega
      subst hz;simp only[show decide (((0:aG):aA)>0)=aq from rfl,aC];right;exact⟨1,h,by omega,by simp only[kY.el,h1,h3,bj];rfl,rfl⟩
  ·left;have h0:dv.length-i=0:=by omega
   simp only[h,bm,aC,h0,PJ,List.all_nil,bj]) (dv.length+1) 0 (by omega) (by omega)
 refine this.trans ?_;unfold v;rw[uF,<-PK]
end Gv

namespace Cg
def b(kr:DX R)(a:aA)(d:au)(e:aX)(f:au):aD R:=bif IJ.c a d e then bif !Gv.v a d e then kr a d e aq else bif a !=1 then kr a d e aq else bif !oe.v (f.size:aA) 1 40 then kr a d e aq else bif decide (bM ((d.size:aA)+(f.size:aA))>400)then kr a d e aq else bif decide (d.size+f.size<=4611686018427387904)then kr a (d++f) e ak else ao else ao
def v(fJ:aA)(eH:au)(dv:aX)(fX:au):aA×au×aX×aY:=
 if kY.v fJ eH dv=ak/\fJ=1/\1<=fX.size/\fX.size<=40/\eH.size+fX.size<=400 then(fJ,eH++fX,dv,ak)else(fJ,eH,dv,aq)
def c(fJ:aA)(eH:au)(dv:aX)(fX:au):aY:=decide (dv.length<=4294967296)
theorem fI(kr:DX R)(fJ:aA)(eH:au)(dv:aX)(fX:au)(hc:c fJ eH dv fX=ak)(f0:Gc eH)(f1:uw dv)(f2:Gc fX):b kr fJ eH dv fX=kr (v fJ eH dv fX).1 (v fJ eH dv fX).2.1 (v fJ eH dv fX).2.2.1 (v fJ eH dv fX).2.2.2:=by
 have hs1:eH.size<=4611686018427387904:=f0;have LB:fX.size<=4611686018427387904:=f2;have e1:IJ.c fJ eH dv=true:=hc;have e2:∀a b c,Gv.v a b c=kY.v a b c:=λ_ _ _=>rfl;have e3:∀n a b,oe.v n a b=decide (a<=n/\n<=b):=kY.mr;unfold b v;rw[e1,e2,e3,ay];cases h1:kY.v fJ eH dv with
 |false=>simp
 |true=>
  by_cases h2:fJ=1
  ·by_cases h3:1<=(fX.size:aA)/\(fX.size:aA)<=40
   ·have e4:bM ((eH.size:aA)+(fX.size:aA))=eH.size+fX.size:=jQ (by omega) (by omega);rw[e4,aJ h3];by_cases h4:(eH.size:aA)+(fX.size:aA)>400
    ·rw[Lib.AU h4,bL (by omega)];simp[h2]
    ·rw[Lib.GX h4,bC (by refine⟨rfl,h2, ?_, ?_, ?_⟩<;>omega),Lib.AU (show eH.size+fX.size<=4611686018427387904 by omega)];simp[h2]
   ·rw[aM h3,bL (by omega)];simp
  ·have h_:(fJ !=1)=true:=bne_iff_ne.mpr h2;rw[bL (by simp[h2]),h_];rfl
end Cg

namespace zj
def r1(N:aG)(g k0:iC R)(a d e f h i:aA)(j l m o p q:aX):aD R:=bif decide (e<d)then bif decide (0<=e)&&decide (e<(j.length:aA))then bif decide (bY (aw j e.toNat (1+1))=bM (a+1))then bif decide (bY (aw j e.toNat (1+1+1+1))=1)then bif decide (0<=a)&&decide (a<(q.length:aA))then bif decide (0<=e)&&decide (e<(j.length:aA))then g a d (bM (e+1)) f h i (eh j e.toNat 5 [.s (bQ (aw q a.toNat 1))]) l m o p q else ao else ao else g a d (bM (e+1)) f h i j l m o p q else g a d (bM (e+1)) f h i j l m o p q else ao else k0 a d e f h i j l m o p q
def l1(N:aG)(k0:iC R):aG->iC R
 |0=>λ_ _ _ _ _ _ _ _ _ _ _ _=>ao
 |n+1=>r1 N (l1 N k0 n) k0
def b(N:aG)(kr:eJ R)(a:aA)(d e f h:aX)(i:aA)(j l:aX)(m o:aA):aD R:=l1 N (λ_ _ _ p q r s t u w y z=>kr p t u w y q z s r) N o (l.length:aA) 0 a i m l d e f h j
def vo:=b Lib.c7 λr0 r1 r2 r3 r4 r5 r6 r7 r8=>aj (r0,r1,r2,r3,r4,r5,r6,r7,r8)
def c:=λa d e f h i j l m o=>(vo a d e f h i j l m o).isSome
def v:=λa d e f h i j l m o=>(vo a d e f h i j l m o).getD (0,[],[],[],[],0,[],[],0)
theorem out{x}:∀a d e f h i j l m o,vo a d e f h i j l m o=aj x->c a d e f h i j l m o=ak/\v a d e f h i j l m o=x:=λ_ _ _ _ _ _ _ _ _ _=>Lib.dy
end zj

namespace KX
def b(kr:km R)(a:aA)(d e f h:aX)(i:aA)(j l:aX)(m o:aA)(p:au):aD R:=bif uO.c a d e f h i j l m then Lib.lt (uO.v a d e f h i j l m) λq=>bif tL.c a d e f h i j l m o then Lib.lt (tL.v a d e f h i j l m o) λr=>bif !r then kr q.1 q.2.1 q.2.2.1 q.2.2.2.1 q.2.2.2.2.1 q.2.2.2.2.2.1 q.2.2.2.2.2.2.1 q.2.2.2.2.2.2.2.1 q.2.2.2.2.2.2.2.2 aq else bif decide (0<=o)&&decide (o<(j.length:aA))then bif decide (0<=o)&&decide (o<(j.length:aA))then bif !(Cg.v (bY (aw j o.toNat 2)) (bQ (aw j o.toNat 1)) [] p).2.2.2 then kr q.1 q.2.1 q.2.2.1 q.2.2.2.1 q.2.2.2.2.1 q.2.2.2.2.2.1 q.2.2.2.2.2.2.1 q.2.2.2.2.2.2.2.1 q.2.2.2.2.2.2.2.2 aq else bif decide (0<=o)&&decide (o<(q.2.2.2.2.2.2.1.length:aA))then bif zj.c q.1 q.2.1 q.2.2.1 q.2.2.2.1 q.2.2.2.2.1 q.2.2.2.2.2.1 (eh q.2.2.2.2.2.2.1 o.toNat 1 [.s (Cg.v (bY (aw j o.toNat 2)) (bQ (aw j o.toNat 1)) [] p).2.1]) q.2.2.2.2.2.2.2.1 q.2.2.2.2.2.2.2.2 o then Lib.lt (zj.v q.1 q.2.1 q.2.2.1 q.2.2.2.1 q.2.2.2.2.1 q.2.2.2.2.2.1 (eh q.2.2.2.2.2.2.1 o.toNat 1 [.s (Cg.v (bY (aw j o.toNat 2)) (bQ (aw j o.toNat 1)) [] p).2.1]) q.2.2.2.2.2.2.2.1 q.2.2.2.2.2.2.2.2 o) λs=>kr s.1 s.2.1 s.2.2.1 s.2.2.2.1 s.2.2.2.2.1 s.2.2.2.2.2.1 s.2.2.2.2.2.2.1 s.2.2.2.2.2.2.2.1 s.2.2.2.2.2.2.2.2 ak else ao else ao else ao else ao else ao else ao
def vo:=b λr0 r1 r2 r3 r4 r5 r6 r7 r8 r9=>aj (r0,r1,r2,r3,r4,r5,r6,r7,r8,r9)
def c:=λa d e f h i j l m o p=>(vo a d e f h i j l m o p).isSome
def v:=λa d e f h i j l m o p=>(vo a d e f h i j l m o p).getD (0,[],[],[],[],0,[],[],0,aq)
theorem out{x}:∀a d e f h i j l m o p,vo a d e f h i j l m o p=aj x->c a d e f h i j l m o p=ak/\v a d e f h i j l m o p=x:=λ_ _ _ _ _ _ _ _ _ _ _=>Lib.dy
end KX

namespace uH
def r1(N:aG)(g k0:jG R)(a d e f h i j:aA)(l m o p q r:aX):aD R:=bif decide (f<e)then bif decide (0<=f)&&decide (f<(l.length:aA))then bif decide (bY (aw l f.toNat (1+1))=bM (a+1))then bif decide (bY (aw l f.toNat (1+1+1+1))=1)then bif decide (0<=a)&&decide (a<(r.length:aA))then bif decide (0<=f)&&decide (f<(l.length:aA))then bif decide (0<=f)&&decide (f<((eh l f.toNat 4 [.i .i64 d]).length:aA))then g a d e (bM (f+1)) h i j (eh (eh l f.toNat 4 [.i .i64 d]) f.toNat 5 [.s (bQ (aw r a.toNat 1))]) m o p q r else ao else ao else ao else g a d e (bM (f+1)) h i j l m o p q r else g a d e (bM (f+1)) h i j l m o p q r else ao else k0 a d e f h i j l m o p q r
def l1(N:aG)(k0:jG R):aG->jG R
 |0=>λ_ _ _ _ _ _ _ _ _ _ _ _ _=>ao
 |n+1=>r1 N (l1 N k0 n) k0
def b(N:aG)(kr:eJ R)(a:aA)(d e f h:aX)(i:aA)(j l:aX)(m o p:aA):aD R:=l1 N (λ_ _ _ _ q r s t u w y z α=>kr q u w y z r α t s) N o p (l.length:aA) 0 a i m l d e f h j
def vo:=b Lib.c7 λr0 r1 r2 r3 r4 r5 r6 r7 r8=>aj (r0,r1,r2,r3,r4,r5,r6,r7,r8)
def c:=λa d e f h i j l m o p=>(vo a d e f h i j l m o p).isSome
def v:=λa d e f h i j l m o p=>(vo a d e f h i j l m o p).getD (0,[],[],[],[],0,[],[],0)
theorem out{x}:∀a d e f h i j l m o p,vo a d e f h i j l m o p=aj x->c a d e f h i j l m o p=ak/\v a d e f h i j l m o p=x:=λ_ _ _ _ _ _ _ _ _ _ _=>Lib.dy
end uH


namespace tP
def r3(N:aG)(g k0:vk R)(a:aA)(d:au)(e f:aA)(h:au)(i:aX):aD R:=bif decide (a<(i.length:aA))then bif decide (0<=a)&&decide (a<(i.length:aA))then bif cf (bQ (aw i a.toNat 0)).toList (aL d)then g (bM (a+1)) d e f h i else k0 a d e f h i else ao else k0 a d e f h i
def l3(N:aG)(k0:vk R):aG->vk R
 |0=>λ_ _ _ _ _ _=>ao
 |n+1=>r3 N (l3 N k0 n) k0
def b(N:aG)(kr:aX->aD R)(a:aX)(d:au)(e f:aA)(h:au):aD R:=bif B6.c a d then l3 N (λi j l m o p=>bif decide (0<=i)&&decide (i<=(p.length:aA))&&cJ (p.length+(aE (aT [Ck.s,Ck.i ar,Ck.i ar,Ck.s] 1) 0 [.s j, .i .i64 l, .i .i64 m, .s o]).length) 48 then kr (Pu.xW p i.toNat (aE (aT [Ck.s,Ck.i ar,Ck.i ar,Ck.s] 1) 0 [.s j, .i .i64 l, .i .i64 m, .s o]))else ao) N 0 d e f h (B6.v a d)else ao
def vo:=b Lib.c7 λr0=>aj r0
def c:=λa d e f h=>(vo a d e f h).isSome
def v:=λa d e f h=>(vo a d e f h).getD ([])
theorem out{x}:∀a d e f h,vo a d e f h=aj x->c a d e f h=ak/\v a d e f h=x:=λ_ _ _ _ _=>Lib.dy
end tP

namespace Ci
def b(kr:eJ R)(a:aA)(d e f h:aX)(i:aA)(j l:aX)(m:aA)(o:au)(p q:aA)(r:au):aD R:=bif MH.c e f h i o then Lib.lt (MH.v e f h i o) λs=>bif B6.c d s.2.2.2.2 then Lib.lt (B6.v d s.2.2.2.2) λt=>bif uK.c s.1 s.2.1 s.2.2.1 s.2.2.2.1 o then Lib.lt (uK.v s.1 s.2.1 s.2.2.1 s.2.2.2.1 o) λu=>bif u then bif tP.c t o p q r then Lib.lt (tP.v t o p q r) λw=>kr a w s.1 s.2.1 s.2.2.1 s.2.2.2.1 j l m else ao else kr a t s.1 s.2.1 s.2.2.1 s.2.2.2.1 j l m else ao else ao else ao
def vo:=b λr0 r1 r2 r3 r4 r5 r6 r7 r8=>aj (r0,r1,r2,r3,r4,r5,r6,r7,r8)
def c:=λa d e f h i j l m o p q r=>(vo a d e f h i j l m o p q r).isSome
def v:=λa d e f h i j l m o p q r=>(vo a d e f h i j l m o p q r).getD (0,[],[],[],[],0,[],[],0)
theorem out{x}:∀a d e f h i j l m o p q r,vo a d e f h i j l m o p q r=aj x->c a d e f h i j l m o p q r=ak/\v a d e f h i j l m o p q r=x:=λ_ _ _ _ _ _ _ _ _ _ _ _ _=>Lib.dy
end Ci

namespace N5
def b(kr:km R)(a:aA)(d e f h:aX)(i:aA)(j l:aX)(m o p:aA):aD R:=bif uO.c a d e f h i j l m then Lib.lt (uO.v a d e f h i j l m) λq=>bif tL.c a d e f h i j l m o then Lib.lt (tL.v a d e f h i j l m o) λr=>bif !r then kr q.1 q.2.1 q.2.2.1 q.2.2.2.1 q.2.2.2.2.1 q.2.2.2.2.2.1 q.2.2.2.2.2.2.1 q.2.2.2.2.2.2.2.1 q.2.2.2.2.2.2.2.2 aq else bif decide (0<=o)&&decide (o<(j.length:aA))then bif bY (aw j o.toNat 2) !=1 then kr q.1 q.2.1 q.2.2.1 q.2.2.2.1 q.2.2.2.2.1 q.2.2.2.2.2.1 q.2.2.2.2.2.2.1 q.2.2.2.2.2.2.2.1 q.2.2.2.2.2.2.2.2 aq else bif !oe.v p 0 999999 then kr q.1 q.2.1 q.2.2.1 q.2.2.2.1 q.2.2.2.2.1 q.2.2.2.2.2.1 q.2.2.2.2.2.2.1 q.2.2.2.2.2.2.2.1 q.2.2.2.2.2.2.2.2 aq else bif decide (0<=o)&&decide (o<(q.2.2.2.2.2.2.1.length:aA))then bif uH.c q.1 q.2.1 q.2.2.1 q.2.2.2.1 q.2.2.2.2.1 q.2.2.2.2.2.1 (eh (eh (eh q.2.2.2.2.2.2.1 o.toNat 2 [.i .i64 2]) o.toNat 3 [.i .i64 p]) o.toNat 4 [.i .i64 a]) q.2.2.2.2.2.2.2.1 q.2.2.2.2.2.2.2.2 o 2 then Lib.lt (uH.v q.1 q.2.1 q.2.2.1 q.2.2.2.1 q.2.2.2.2.1 q.2.2.2.2.2.1 (eh (eh (eh q.2.2.2.2.2.2.1 o.toNat 2 [.i .i64 2]) o.toNat 3 [.i .i64 p]) o.toNat 4 [.i .i64 a]) q.2.2.2.2.2.2.2.1 q.2.2.2.2.2.2.2.2 o 2) λs=>bif decide (p>0)then bif Ci.c s.1 s.2.1 s.2.2.1 s.2.2.2.1 s.2.2.2.2.1 s.2.2.2.2.2.1 s.2.2.2.2.2.2.1 s.2.2.2.2.2.2.2.1 s.2.2.2.2.2.2.2.2 (bQ (aw s.2.2.2.2.2.2.1 o.toNat 0)) a p (bQ (aw s.2.2.2.2.2.2.1 o.toNat 1))then Lib.lt (Ci.v s.1 s.2.1 s.2.2.1 s.2.2.2.1 s.2.2.2.2.1 s.2.2.2.2.2.1 s.2.2.2.2.2.2.1 s.2.2.2.2.2.2.2.1 s.2.2.2.2.2.2.2.2 (bQ (aw s.2.2.2.2.2.2.1 o.toNat 0)) a p (bQ (aw s.2.2.2.2.2.2.1 o.toNat 1))) λt=>kr t.1 t.2.1 t.2.2.1 t.2.2.2.1 t.2.2.2.2.1 t.2.2.2.2.2.1 t.2.2.2.2.2.2.1 t.2.2.2.2.2.2.2.1 t.2.2.2.2.2.2.2.2 ak else ao else kr s.1 s.2.1 s.2.2.1 s.2.2.2.1 s.2.2.2.2.1 s.2.2.2.2.2.1 s.2.2.2.2.2.2.1 s.2.2.2.2.2.2.2.1 s.2.2.2.2.2.2.2.2 ak else ao else ao else ao else ao else ao
def vo:=b λr0 r1 r2 r3 r4 r5 r6 r7 r8 r9=>aj (r0,r1,r2,r3,r4,r5,r6,r7,r8,r9)
def c:=λa d e f h i j l m o p=>(vo a d e f h i j l m o p).isSome
def v:=λa d e f h i j l m o p=>(vo a d e f h i j l m o p).getD (0,[],[],[],[],0,[],[],0,aq)
theorem out{x}:∀a d e f h i j l m o p,vo a d e f h i j l m o p=aj x->c a d e f h i j l m o p=ak/\v a d e f h i j l m o p=x:=λ_ _ _ _ _ _ _ _ _ _ _=>Lib.dy
end N5

namespace N6
def b(kr:km R)(a:aA)(d e f h:aX)(i:aA)(j l:aX)(m o:aA):aD R:=bif uO.c a d e f h i j l m then Lib.lt (uO.v a d e f h i j l m) λp=>bif tL.c a d e f h i j l m o then Lib.lt (tL.v a d e f h i j l m o) λq=>bif !q then kr p.1 p.2.1 p.2.2.1 p.2.2.2.1 p.2.2.2.2.1 p.2.2.2.2.2.1 p.2.2.2.2.2.2.1 p.2.2.2.2.2.2.2.1 p.2.2.2.2.2.2.2.2 aq else bif decide (0<=o)&&decide (o<(j.length:aA))then bif bY (aw j o.toNat 2) !=1 then kr p.1 p.2.1 p.2.2.1 p.2.2.2.1 p.2.2.2.2.1 p.2.2.2.2.2.1 p.2.2.2.2.2.2.1 p.2.2.2.2.2.2.2.1 p.2.2.2.2.2.2.2.2 aq else bif decide (0<=o)&&decide (o<(p.2.2.2.2.2.2.1.length:aA))then bif uH.c p.1 p.2.1 p.2.2.1 p.2.2.2.1 p.2.2.2.2.1 p.2.2.2.2.2.1 (eh p.2.2.2.2.2.2.1 o.toNat 2 [.i .i64 3]) p.2.2.2.2.2.2.2.1 p.2.2.2.2.2.2.2.2 o 3 then Lib.lt (uH.v p.1 p.2.1 p.2.2.1 p.2.2.2.1 p.2.2.2.2.1 p.2.2.2.2.2.1 (eh p.2.2.2.2.2.2.1 o.toNat 2 [.i .i64 3]) p.2.2.2.2.2.2.2.1 p.2.2.2.2.2.2.2.2 o 3) λr=>kr r.1 r.2.1 r.2.2.1 r.2.2.2.1 r.2.2.2.2.1 r.2.2.2.2.2.1 r.2.2.2.2.2.2.1 r.2.2.2.2.2.2.2.1 r.2.2.2.2.2.2.2.2 ak else ao else ao else ao else ao else ao
def vo:=b λr0 r1 r2 r3 r4 r5 r6 r7 r8 r9=>aj (r0,r1,r2,r3,r4,r5,r6,r7,r8,r9)
def c:=λa d e f h i j l m o=>(vo a d e f h i j l m o).isSome
def v:=λa d e f h i j l m o=>(vo a d e f h i j l m o).getD (0,[],[],[],[],0,[],[],0,aq)
theorem out{x}:∀a d e f h i j l m o,vo a d e f h i j l m o=aj x->c a d e f h i j l m o=ak/\v a d e f h i j l m o=x:=λ_ _ _ _ _ _ _ _ _ _=>Lib.dy
end N6

namespace xP
def r2(N:aG)(g k0 k1:jL R)(a:aA)(d:aY)(e f:aA)(h i j l:aX)(m:aA)(o p:aX)(q r:aA)(s:au)(t u w:aA)(y:au)(z:aA):aD R:=bif decide (e<(p.length:aA))then bif decide (0<=e)&&decide (e<(p.length:aA))then bif decide (bY (aw p e.toNat 0)=a)then bif decide (0<=e)&&decide (e<(p.length:aA))then k0 a ak e f h i j l m o p q (bY (aw p e.toNat 0)) (bQ (aw p e.toNat 1)) (bY (aw p e.toNat (1+1))) (bY (aw p e.toNat (1+1+1))) (bY (aw p e.toNat (1+1+1+1))) (bQ (aw p e.toNat (1+1+1+1+1))) (bY (aw p e.toNat (1+1+1+1+1+1)))else ao else g a d (bM (e+1)) f h i j l m o p q r s t u w y z else ao else k1 a d e f h i j l m o p q r s t u w y z
def l2(N:aG)(k0 k1:jL R):aG->jL R
 |0=>λ_ _ _ _ _ _ _ _ _ _ _ _ _ _ _ _ _ _ _=>ao
 |n+1=>r2 N (l2 N k0 k1 n) k0 k1
def b(N:aG)(kr:Iz R)(a:aA)(d e f h:aX)(i:aA)(j l:aX)(m o:aA):aD R:=l2 N (λ_ p _ _ _ _ _ _ _ _ _ _ q r s t u w y=>kr q r s t u w y p) (λ_ _ _ _ _ _ _ _ _ _ _ _ _ _ _ _ _ _ _=>kr 0 ⟨#[]⟩ 0 0 0 ⟨#[]⟩ 0 aq) N o aq 0 a d e f h i j l m 0 ⟨#[]⟩ 0 0 0 ⟨#[]⟩ 0
def vo:=b Lib.c7 λr0 r1 r2 r3 r4 r5 r6 r7=>aj (r0,r1,r2,r3,r4,r5,r6,r7)
def c:=λa d e f h i j l m o=>(vo a d e f h i j l m o).isSome
def v:=λa d e f h i j l m o=>(vo a d e f h i j l m o).getD (0,⟨#[]⟩,0,0,0,⟨#[]⟩,0,aq)
theorem out{x}:∀a d e f h i j l m o,vo a d e f h i j l m o=aj x->c a d e f h i j l m o=ak/\v a d e f h i j l m o=x:=λ_ _ _ _ _ _ _ _ _ _=>Lib.dy
end xP

namespace U5
def r25(N:aG)(g k0 k1:fj R)(a d e:aY)(f:aA)(h i:aY)(j l m o p q r s t u:aA)(w y z α xa xb xc xd xe xf xg xh xi xj xk xl xm xn:aX):aD R:=bif decide (j<=4)then bif xP.c l w y z α m xa xb o j then bif xP.c p xc xd xe xf q xg xh r j then bif xP.c s xi xj xk xl t xm xn u j then bif !(xP.v l w y z α m xa xb o j).2.2.2.2.2.2.2 then k0 aq d e f h i j l m o p q r s t u w y z α xa xb xc xd xe xf xg xh xi xj xk xl xm xn else bif !List.beq (xP.v l w y z α m xa xb o j).2.2.2.2.2.1.toList (aL {data:= #[ax 104,ax 101,ax 108,ax 108,ax 111,ax 32,ax 116,ax 104,ax 101,ax 114,ax 101]})then k0 aq d e f h i j l m o p q r s t u w y z α xa xb xc xd xe xf xg xh xi xj xk xl xm xn else bif(xP.v l w y z α m xa xb o j).2.2.2.2.1 !=1 then k0 aq d e f h i j l m o p q r s t u w y z α xa xb xc xd xe xf xg xh xi xj xk xl xm xn else bif !(xP.v p xc xd xe xf q xg xh r j).2.2.2.2.2.2.2 then k0 aq d e f h i j l m o p q r s t u w y z α xa xb xc xd xe xf xg xh xi xj xk xl xm xn else bif(xP.v p xc xd xe xf q xg xh r j).2.2.2.2.1 !=2 then k0 aq d e f h i j l m o p q r s t u w y z α xa xb xc xd xe xf xg xh xi xj xk xl xm xn else bif !List.beq (xP.v p xc xd xe xf q xg xh r j).2.2.2.2.2.1.toList (xP.v l w y z α m xa xb o j).2.2.2.2.2.1.toList then k0 aq d e f h i j l m o p q r s t u w y z α xa xb xc xd xe xf xg xh xi xj xk xl xm xn else bif !(xP.v s xi xj xk xl t xm xn u j).2.2.2.2.2.2.2 then k0 aq d e f h i j l m o p q r s t u w y z α xa xb xc xd xe xf xg xh xi xj xk xl xm xn else bif(xP.v s xi xj xk xl t xm xn u j).2.2.2.2.1 !=3 then k0 aq d e f h i j l m o p q r s t u w y z α xa xb xc xd xe xf xg xh xi xj xk xl xm xn else g a d e f h i (bM (j+1)) l m o p q r s t u w y z α xa xb xc xd xe xf xg xh xi xj xk xl xm xn else ao else ao else ao else k1 a d e f h i j l m o p q r s t u w y z α xa xb xc xd xe xf xg xh xi xj xk xl xm xn
def TV(N:aG)(k0 k1:fj R):aG->fj R
 |0=>λ_ _ _ _ _ _ _ _ _ _ _ _ _ _ _ _ _ _ _ _ _ _ _ _ _ _ _ _ _ _ _ _ _ _=>ao
 |n+1=>r25 N (TV N k0 k1 n) k0 k1
def z5(N:aG)(g k0 k1:nv R)(a:aY)(d e f h i:aA)(j l m o p q r:aX):aD R:=bif decide (e<=3)then bif wG.c f l m o p h q r i e {data:= #[ax 47,ax 110,ax 101,ax 119]}then bif(wG.v f l m o p h q r i e {data:= #[ax 47,ax 110,ax 101,ax 119]}).2.2.2.2.2.2.2.2.2 !=0 then bif decide ((wG.v f l m o p h q r i e {data:= #[ax 47,ax 110,ax 101,ax 119]}).2.2.2.2.2.2.2.2.2=2)then k0 (decide (d=20)) d e f h i j l m o p q r else k0 aq d e f h i j l m o p q r else g a d (bM (e+1)) (wG.v f l m o p h q r i e {data:= #[ax 47,ax 110,ax 101,ax 119]}).1 (wG.v f l m o p h q r i e {data:= #[ax 47,ax 110,ax 101,ax 119]}).2.2.2.2.2.1 (wG.v f l m o p h q r i e {data:= #[ax 47,ax 110,ax 101,ax 119]}).2.2.2.2.2.2.2.2.1 j (wG.v f l m o p h q r i e {data:= #[ax 47,ax 110,ax 101,ax 119]}).2.1 (wG.v f l m o p h q r i e {data:= #[ax 47,ax 110,ax 101,ax 119]}).2.2.1 (wG.v f l m o p h q r i e {data:= #[ax 47,ax 110,ax 101,ax 119]}).2.2.2.1 (wG.v f l m o p h q r i e {data:= #[ax 47,ax 110,ax 101,ax 119]}).2.2.2.2.1 (wG.v f l m o p h q r i e {data:= #[ax 47,ax 110,ax 101,ax 119]}).2.2.2.2.2.2.1 (wG.v f l m o p h q r i e {data:= #[ax 47,ax 110,ax 101,ax 119]}).2.2.2.2.2.2.2.1 else ao else k1 a d e f h i j l m o p q r
def Fc(N:aG)(k0 k1:nv R):aG->nv R
 |0=>λ_ _ _ _ _ _ _ _ _ _ _ _ _=>ao
 |n+1=>z5 N (Fc N k0 k1 n) k0 k1
def r6(N:aG)(g k0:ox R)(a:aY)(d e f h:aA)(i j l m o p q:aX):aD R:=bif decide (d<=9)then bif FY.c e j l m o f p q h d then g a (bM (d+1)) (FY.v e j l m o f p q h d).1 (FY.v e j l m o f p q h d).2.2.2.2.2.1 (FY.v e j l m o f p q h d).2.2.2.2.2.2.2.2 i (FY.v e j l m o f p q h d).2.1 (FY.v e j l m o f p q h d).2.2.1 (FY.v e j l m o f p q h d).2.2.2.1 (FY.v e j l m o f p q h d).2.2.2.2.1 (FY.v e j l m o f p q h d).2.2.2.2.2.2.1 (FY.v e j l m o f p q h d).2.2.2.2.2.2.2.1 else ao else k0 a d e f h i j l m o p q
def l6(N:aG)(k0:ox R):aG->ox R
 |0=>λ_ _ _ _ _ _ _ _ _ _ _ _=>ao
 |n+1=>r6 N (l6 N k0 n) k0
def b(N:aG)(kr:aY->aD R)(a:aX):aD R:=bif U15.v a then kr ak else bif B5.c a then bif N4.c a then l6 N (λd _ e f h i j l m o p q=>Fc N (λr _ _ _ _ _ _ _ _ _ _ _ _=>kr r) (λr s _ t u w y z α xa xb xc xd=>bif(xc.length:aA) !=bM (s+1)then kr aq else bif KX.c t z α xa xb u xc xd w s {data:= #[ax 104,ax 101,ax 108,ax 108,ax 111]}then Lib.lt (KX.v t z α xa xb u xc xd w s {data:= #[ax 104,ax 101,ax 108,ax 108,ax 111]}) λxe=>bif KX.c xe.1 xe.2.1 xe.2.2.1 xe.2.2.2.1 xe.2.2.2.2.1 xe.2.2.2.2.2.1 xe.2.2.2.2.2.2.1 xe.2.2.2.2.2.2.2.1 xe.2.2.2.2.2.2.2.2.1 s {data:= #[ax 32,ax 116,ax 104,ax 101,ax 114,ax 101]}then Lib.lt (KX.v xe.1 xe.2.1 xe.2.2.1 xe.2.2.2.1 xe.2.2.2.2.1 xe.2.2.2.2.2.1 xe.2.2.2.2.2.2.1 xe.2.2.2.2.2.2.2.1 xe.2.2.2.2.2.2.2.2.1 s {data:= #[ax 32,ax 116,ax 104,ax 101,ax 114,ax 101]}) λxf=>bif wG.c xf.1 xf.2.1 xf.2.2.1 xf.2.2.2.1 xf.2.2.2.2.1 xf.2.2.2.2.2.1 xf.2.2.2.2.2.2.1 xf.2.2.2.2.2.2.2.1 xf.2.2.2.2.2.2.2.2.1 4 {data:= #[ax 47,ax 110,ax 101,ax 119]}then Lib.lt (wG.v xf.1 xf.2.1 xf.2.2.1 xf.2.2.2.1 xf.2.2.2.2.1 xf.2.2.2.2.2.1 xf.2.2.2.2.2.2.1 xf.2.2.2.2.2.2.2.1 xf.2.2.2.2.2.2.2.2.1 4 {data:= #[ax 47,ax 110,ax 101,ax 119]}) λxg=>bif decide (0<(y.length:aA))then bif N5.c xg.1 xg.2.1 xg.2.2.1 xg.2.2.2.1 xg.2.2.2.2.1 xg.2.2.2.2.2.1 xg.2.2.2.2.2.2.1 xg.2.2.2.2.2.2.2.1 xg.2.2.2.2.2.2.2.2.1 s (cF (bY (aw y (bc 0) 0)) 99)then Lib.lt (N5.v xg.1 xg.2.1 xg.2.2.1 xg.2.2.2.1 xg.2.2.2.2.1 xg.2.2.2.2.2.1 xg.2.2.2.2.2.2.1 xg.2.2.2.2.2.2.2.1 xg.2.2.2.2.2.2.2.2.1 s (cF (bY (aw y (bc 0) 0)) 99)) λxh=>bif N6.c xg.1 xg.2.1 xg.2.2.1 xg.2.2.2.1 xg.2.2.2.2.1 xg.2.2.2.2.2.1 xg.2.2.2.2.2.2.1 xg.2.2.2.2.2.2.2.1 xg.2.2.2.2.2.2.2.2.1 s then Lib.lt (N6.v xg.1 xg.2.1 xg.2.2.1 xg.2.2.2.1 xg.2.2.2.2.1 xg.2.2.2.2.2.1 xg.2.2.2.2.2.2.1 xg.2.2.2.2.2.2.2.1 xg.2.2.2.2.2.2.2.2.1 s) λxi=>TV N (λxj _ _ _ _ _ _ _ _ _ _ _ _ _ _ _ _ _ _ _ _ _ _ _ _ _ _ _ _ _ _ _ _ _=>kr xj) (λ_ xj xk xl xm xn _ _ _ _ xo xp xq xr xs xt _ _ _ _ _ _ xu xv xw xx xy xz ya yb yc yd ye yf=>bif xj then bif xk then bif decide (xl=0)then bif xm then bif xn then bif ED.c xo xu xv xw xx xp xy xz xq then bif ED.v xo xu xv xw xx xp xy xz xq then bif ED.c xr ya yb yc yd xs ye yf xt then kr (ED.v xr ya yb yc yd xs ye yf xt)else ao else kr aq else ao else kr aq else kr aq else kr aq else kr aq else kr aq) N r xe.2.2.2.2.2.2.2.2.2 xf.2.2.2.2.2.2.2.2.2 xg.2.2.2.2.2.2.2.2.2 xh.2.2.2.2.2.2.2.2.2 xi.2.2.2.2.2.2.2.2.2 1 xg.1 xg.2.2.2.2.2.1 xg.2.2.2.2.2.2.2.2.1 xh.1 xh.2.2.2.2.2.1 xh.2.2.2.2.2.2.2.2.1 xi.1 xi.2.2.2.2.2.1 xi.2.2.2.2.2.2.2.2.1 xg.2.1 xg.2.2.1 xg.2.2.2.1 xg.2.2.2.2.1 xg.2.2.2.2.2.2.1 xg.2.2.2.2.2.2.2.1 xh.2.1 xh.2.2.1 xh.2.2.2.1 xh.2.2.2.2.1 xh.2.2.2.2.2.2.1 xh.2.2.2.2.2.2.2.1 xi.2.1 xi.2.2.1 xi.2.2.2.1 xi.2.2.2.2.1 xi.2.2.2.2.2.2.1 xi.2.2.2.2.2.2.2.1 else ao else ao else ao else ao else ao else ao) N d (p.length:aA) 1 e f h i j l m o p q) N aq 1 (B5.v a).1 (B5.v a).2.2.2.2.2.1 (B5.v a).2.2.2.2.2.2.2.2 (N4.v a) (B5.v a).2.1 (B5.v a).2.2.1 (B5.v a).2.2.2.1 (B5.v a).2.2.2.2.1 (B5.v a).2.2.2.2.2.2.1 (B5.v a).2.2.2.2.2.2.2.1 else ao else ao
def vo:=b Lib.c7 λr0=>aj r0
def c:=λa=>(vo a).isSome
def v:=λa=>(vo a).getD aq
theorem out{x}:∀a,vo a=aj x->c a=ak/\v a=x:=λ_=>Lib.dy
end U5

namespace gp
def r5(N:aG)(g k0 k1:wQ R)(a:au)(d e f:aA)(h:aY)(i j:aA):aD R:=bif decide (j<5)then bif decide (bM (d+j)<(a.size:aA))then bif decide (0<=bM (d+j))&&decide (bM (d+j)<(a.size:aA))then bif decide (0<=bM (7*j))then bif decide (bM (↑(iH a (bM (d+j)).toNat):aA)>127)then g a d e f h (bM (i+bM (cF (bM (↑(iH a (bM (d+j)).toNat):aA)) 128*gZ 2 (if(bM (7*j)).toNat<=64 then(bM (7*j)).toNat else 64)))) (bM (j+1))else bif decide (j>0)then bif decide (bM (↑(iH a (bM (d+j)).toNat):aA)=0)then k0 a d 0 0 aq (bM (i+bM (cF (bM (↑(iH a (bM (d+j)).toNat):aA)) 128*gZ 2 (if(bM (7*j)).toNat<=64 then(bM (7*j)).toNat else 64)))) j else bif decide (bM (i+bM (cF (bM (↑(iH a (bM (d+j)).toNat):aA)) 128*gZ 2 (if(bM (7*j)).toNat<=64 then(bM (7*j)).toNat else 64)))>1000000000)then k0 a d 0 0 aq (bM (i+bM (cF (bM (↑(iH a (bM (d+j)).toNat):aA)) 128*gZ 2 (if(bM (7*j)).toNat<=64 then(bM (7*j)).toNat else 64)))) j else k0 a d (bM (i+bM (cF (bM (↑(iH a (bM (d+j)).toNat):aA)) 128*gZ 2 (if(bM (7*j)).toNat<=64 then(bM (7*j)).toNat else 64)))) (bM (bM (d+j)+1)) ak (bM (i+bM (cF (bM (↑(iH a (bM (d+j)).toNat):aA)) 128*gZ 2 (if(bM (7*j)).toNat<=64 then(bM (7*j)).toNat else 64)))) j else bif decide (bM (i+bM (cF (bM (↑(iH a (bM (d+j)).toNat):aA)) 128*gZ 2 (if(bM (7*j)).toNat<=64 then(bM (7*j)).toNat else 64)))>1000000000)then k0 a d 0 0 aq (bM (i+bM (cF (bM (↑(iH a (bM (d+j)).toNat):aA)) 128*gZ 2 (if(bM (7*j)).toNat<=64 then(bM (7*j)).toNat else 64)))) j else k0 a d (bM (i+bM (cF (bM (↑(iH a (bM (d+j)).toNat):aA)) 128*gZ 2 (if(bM (7*j)).toNat<=64 then(bM (7*j)).toNat else 64)))) (bM (bM (d+j)+1)) ak (bM (i+bM (cF (bM (↑(iH a (bM (d+j)).toNat):aA)) 128*gZ 2 (if(bM (7*j)).toNat<=64 then(bM (7*j)).toNat else 64)))) j else ao else ao else k1 a d e f h i j else k1 a d e f h i j
def l5(N:aG)(k0 k1:wQ R):aG->wQ R
 |0=>λ_ _ _ _ _ _ _=>ao
 |n+1=>r5 N (l5 N k0 k1 n) k0 k1
def b(N:aG)(kr:OA R)(a:au)(d:aA):aD R:=bif !oe.v d 0 (a.size:aA)then kr 0 0 aq else l5 N (λ_ _ e f h _ _=>kr e f h) (λ_ _ _ _ _ _ _=>kr 0 0 aq) N a d 0 0 aq 0 0
def v(dW:au)(iq:aA):aA×aA×aY:=if 0<=iq/\iq<=dW.size then Lib.rv dW iq.toNat 5 0 0 else(0,0,aq)
end gp

namespace EC
def b(kr:au->aD R)(a:au):aD R:=bif tQ.c a then kr (bytesOf (aE (aE (aE (aE (aT [Ck.i bk] 4) 0 [CV.i bk (bJ bk (kP (tQ.v a) (gZ 2 (if bc 24<=32 then bc 24 else 32))))]) 1 [CV.i bk (bJ bk (kP (tQ.v a) (gZ 2 (if bc 16<=32 then bc 16 else 32))))]) 2 [CV.i bk (bJ bk (kP (tQ.v a) (gZ 2 (if bc 8<=32 then bc 8 else 32))))]) 3 [CV.i bk (bJ bk (tQ.v a))]))else ao
def vo:=b λr0=>aj r0
def c:=λa=>(vo a).isSome
def v:=λa=>(vo a).getD (⟨#[]⟩)
theorem out{x}:∀a,vo a=aj x->c a=ak/\v a=x:=λ_=>Lib.dy
end EC

namespace U203
def r3(N:aG)(g k0:oC R)(a:au)(d:aA)(e:aX):aD R:=bif decide ((a.size:aA)<=20000)then bif !(gp.v a d).2.2 then k0 a d e else bif !oe.v (gp.v a d).1 1 9000 then k0 a d e else bif decide (bM ((gp.v a d).1+4)>bM ((a.size:aA)-(gp.v a d).2.1))then k0 a d e else bif iO (bM ((gp.v a d).2.1+4)) (bM (bM ((gp.v a d).2.1+4)+(gp.v a d).1)) (a.size:aA)then bif EC.c (bR a (bM ((gp.v a d).2.1+4)).toNat (bM (bM ((gp.v a d).2.1+4)+(gp.v a d).1)).toNat)then bif iO (gp.v a d).2.1 (bM ((gp.v a d).2.1+4)) (a.size:aA)then bif !List.beq (EC.v (bR a (bM ((gp.v a d).2.1+4)).toNat (bM (bM ((gp.v a d).2.1+4)+(gp.v a d).1)).toNat)).toList (bR a (gp.v a d).2.1.toNat (bM ((gp.v a d).2.1+4)).toNat).toList then k0 a d e else bif cJ (e.length+(aE (aT [.s] 1) 0 [.s (bR a (bM ((gp.v a d).2.1+4)).toNat (bM (bM ((gp.v a d).2.1+4)+(gp.v a d).1)).toNat)]).length) 16 then g a (bM (bM ((gp.v a d).2.1+4)+(gp.v a d).1)) (e++aE (aT [.s] 1) 0 [.s (bR a (bM ((gp.v a d).2.1+4)).toNat (bM (bM ((gp.v a d).2.1+4)+(gp.v a d).1)).toNat)])else ao else ao else ao else ao else k0 a d e
def l3(N:aG)(k0:oC R):aG->oC R
 |0=>λ_ _ _=>ao
 |n+1=>r3 N (l3 N k0 n) k0
def b(N:aG)(kr:uq R)(a:au):aD R:=l3 N (λ_ d e=>kr e d) N a 0 (aT [.s] 0)
def vo:=b Lib.c7 λr0 r1=>aj (r0,r1)
def c:=λa=>(vo a).isSome
def v:=λa=>(vo a).getD ([],0)
theorem out{x}:∀a,vo a=aj x->c a=ak/\v a=x:=λ_=>Lib.dy
end U203

namespace zl
def r2(N:aG)(g k0 k1:DU R)(a:aY)(d:aX)(e f:aA)(h:aX):aD R:=bif decide (f<e)then bif decide (0<=f)&&decide (f<(d.length:aA))then bif !oe.v ((bQ (aw d f.toNat 0)).size:aA) 1 8 then k0 aq d e f h else bif decide (((bQ (aw d f.toNat 1)).size:aA)>20000)then k0 aq d e f h else bif !oe.v (bY (aw d f.toNat (1+1))) 0 ((bQ (aw d f.toNat 1)).size:aA)then k0 aq d e f h else bif decide (f>0)then bif decide (0<=bM (f-1))&&decide (bM (f-1)<(h.length:aA))then bif !Op.bytesLess (bQ (aw h (bM (f-1)).toNat 0)).toList (bQ (aw d f.toNat 0)).toList then k0 aq d e f h else g a d e (bM (f+1)) h else ao else g a d e (bM (f+1)) h else ao else k1 a d e f h
def l2(N:aG)(k0 k1:DU R):aG->DU R
 |0=>λ_ _ _ _ _=>ao
 |n+1=>r2 N (l2 N k0 k1 n) k0 k1
def b(N:aG)(kr:aY->aD R)(a:aX):aD R:=l2 N (λd _ _ _ _=>kr d) (λ_ _ _ _ d=>kr (decide ((d.length:aA)<=30))) N aq a (a.length:aA) 0 a
def vo:=b Lib.c7 λr0=>aj r0
def c:=λa=>(vo a).isSome
def v:=λa=>(vo a).getD aq
theorem out{x}:∀a,vo a=aj x->c a=ak/\v a=x:=λ_=>Lib.dy
end zl

namespace PU
def b(kr:aY->aD R)(a d:au)(e:aA)(HE:au):aD R:=kr (dC (aL a) (aL HE))
def v(a0 a1:au)(a2:aA)(HE:au):aY:=(dC (aL a0) (aL HE))
end PU

namespace vC
def r2(N:aG)(g k0 k1:iG R)(a:aX)(d:au)(e f h:aA):aD R:=bif decide (h<f)then bif decide (0<=h)&&decide (h<(a.length:aA))then bif PU.v (bQ (aw a h.toNat 0)) (bQ (aw a h.toNat 1)) (bY (aw a h.toNat (1+1))) d then k0 a d h f h else g a d e f (bM (h+1))else ao else k1 a d e f h
def l2(N:aG)(k0 k1:iG R):aG->iG R
 |0=>λ_ _ _ _ _=>ao
 |n+1=>r2 N (l2 N k0 k1 n) k0 k1
def b(N:aG)(kr:aA->aD R)(a:aX)(HE:au):aD R:=l2 N (λ_ _ d _ _=>kr d) (λ_ _ _ _ _=>kr (-1)) N a HE 0 (a.length:aA) 0
def vo:=b Lib.c7 λr0=>aj r0
def c:=λa d=>(vo a d).isSome
def v:=λa d=>(vo a d).getD (0)
theorem out{x}:∀a d,vo a d=aj x->c a d=ak/\v a d=x:=λ_ _=>Lib.dy
end vC

namespace AB
def b(kr:aA->aD R)(a:aX)(d:au):aD R:=bif vC.c a d then kr (vC.v a d)else ao
def vo:=b λr0=>aj r0
def c:=λa d=>(vo a d).isSome
def v:=λa d=>(vo a d).getD (0)
theorem out{x}:∀a d,vo a d=aj x->c a d=ak/\v a d=x:=λ_ _=>Lib.dy
end AB

namespace Az
def b(kr:MA R)(a:aX)(d:au):aD R:=bif AB.c a d then bif decide (AB.v a d<0)then kr ⟨#[]⟩ aq else bif decide (0<=AB.v a d)&&decide (AB.v a d<(a.length:aA))then kr (bQ (aw a (AB.v a d).toNat 1)) ak else ao else ao
def vo:=b λr0 r1=>aj (r0,r1)
def c:=λa d=>(vo a d).isSome
def v:=λa d=>(vo a d).getD (⟨#[]⟩,aq)
theorem out{x}:∀a d,vo a d=aj x->c a d=ak/\v a d=x:=λ_ _=>Lib.dy
end Az

namespace vx
def b(kr:Kw R)(a:au)(d:aA):aD R:=bif !(gp.v a d).2.2 then kr ⟨#[]⟩ 0 aq else bif decide ((gp.v a d).1>20000)then kr ⟨#[]⟩ 0 aq else bif decide ((gp.v a d).1>bM ((a.size:aA)-(gp.v a d).2.1))then kr ⟨#[]⟩ 0 aq else bif iO (gp.v a d).2.1 (bM ((gp.v a d).2.1+(gp.v a d).1)) (a.size:aA)then kr (bR a (gp.v a d).2.1.toNat (bM ((gp.v a d).2.1+(gp.v a d).1)).toNat) (bM ((gp.v a d).2.1+(gp.v a d).1)) ak else ao
def v(dW:au)(iq:aA):au×aA×aY:=Lib.iB dW iq
end vx

namespace xQ
def b(kr:zE R)(a:au):aD R:=bif !(vx.v a 0).2.2 then kr ⟨#[]⟩ 0 0 ⟨#[]⟩ aq else bif !(gp.v a (vx.v a 0).2.1).2.2 then kr ⟨#[]⟩ 0 0 ⟨#[]⟩ aq else bif !(gp.v a (gp.v a (vx.v a 0).2.1).2.1).2.2 then kr ⟨#[]⟩ 0 0 ⟨#[]⟩ aq else bif iO (gp.v a (gp.v a (vx.v a 0).2.1).2.1).2.1 (a.size:aA) (a.size:aA)then bif !Ay.v (vx.v a 0).1 (gp.v a (vx.v a 0).2.1).1 (gp.v a (gp.v a (vx.v a 0).2.1).2.1).1 (bR a (gp.v a (gp.v a (vx.v a 0).2.1).2.1).2.1.toNat (a.size:aA).toNat)then kr ⟨#[]⟩ 0 0 ⟨#[]⟩ aq else kr (vx.v a 0).1 (gp.v a (vx.v a 0).2.1).1 (gp.v a (gp.v a (vx.v a 0).2.1).2.1).1 (bR a (gp.v a (gp.v a (vx.v a 0).2.1).2.1).2.1.toNat (a.size:aA).toNat) ak else ao
def v(t0:au):au×aA×aA×au×aY:=jJ.v t0
end xQ

namespace U118
def r7(N:aG)(g k0:Iy R)(a d:aA)(e f:aX):aD R:=bif decide (d<a)then bif decide (0<=d)&&decide (d<(f.length:aA))then bif(xQ.v (bQ (aw f d.toNat 0))).2.2.2.2 then bif tP.c e (xQ.v (bQ (aw f d.toNat 0))).1 (xQ.v (bQ (aw f d.toNat 0))).2.1 (xQ.v (bQ (aw f d.toNat 0))).2.2.1 (xQ.v (bQ (aw f d.toNat 0))).2.2.2.1 then g a (bM (d+1)) (tP.v e (xQ.v (bQ (aw f d.toNat 0))).1 (xQ.v (bQ (aw f d.toNat 0))).2.1 (xQ.v (bQ (aw f d.toNat 0))).2.2.1 (xQ.v (bQ (aw f d.toNat 0))).2.2.2.1) f else ao else g a (bM (d+1)) e f else ao else k0 a d e f
def l7(N:aG)(k0:Iy R):aG->Iy R
 |0=>λ_ _ _ _=>ao
 |n+1=>r7 N (l7 N k0 n) k0
def b(N:aG)(kr:aX->aD R)(a:aX):aD R:=bif zl.c a then bif !zl.v a then kr (aT [Ck.s,Ck.i ar,Ck.i ar,Ck.s] 0)else bif Az.c a {data:= #[ax 107,ax 101,ax 112,ax 116]}then bif U203.c (Az.v a {data:= #[ax 107,ax 101,ax 112,ax 116]}).1 then l7 N (λ_ _ d _=>kr d) N ((U203.v (Az.v a {data:= #[ax 107,ax 101,ax 112,ax 116]}).1).1.length:aA) 0 (aT [Ck.s,Ck.i ar,Ck.i ar,Ck.s] 0) (U203.v (Az.v a {data:= #[ax 107,ax 101,ax 112,ax 116]}).1).1 else ao else ao else ao
def vo:=b Lib.c7 λr0=>aj r0
def c:=λa=>(vo a).isSome
def v:=λa=>(vo a).getD ([])
theorem out{x}:∀a,vo a=aj x->c a=ak/\v a=x:=λ_=>Lib.dy
end U118

end Go.FG
