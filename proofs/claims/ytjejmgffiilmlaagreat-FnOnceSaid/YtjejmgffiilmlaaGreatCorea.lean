/- An evaluator for the part of the language that this program uses, proved sound over the model: states told as values and lists; what an evaluation tells, the call does. No condition. -/
import Derived.Calls
import Derived.Orders
import Derived.Below
import Derived.Laws.AppendOwn
import Derived.Laws.Slices
import Derived.Laws.StructEq
import Derived.Laws.Tables
import Derived.Laws.MakeOwn
import Derived.Laws.IdiomStrings
import Derived.Laws.BytesArg
import Derived.Laws.NewFold
import Derived.SizedLaws
import Derived.Carry
import Derived.ProofKit
import Derived.KernelRfl
import Derived.Laws.Strings
set_option linter.unusedVariables false
set_option linter.unusedSimpArgs false
set_option maxRecDepth 100000
open Array renaming getElem?_eq_some_iff->dQ,getD_eq_getD_getElem?->er,getElem?_setIfInBounds->nJ,toArray_toList->sQ,getElem?_toList->cQ,ext'->rE,length_toList->dN,toList_map->yZ,getElem?_map->Mt,getElem?_extract->dW,eq_empty_of_size_eq_zero->yY,append_assoc->Ms,getElem?_append_left->CL
open BitVec renaming ofInt->b_
open Bool renaming false->aq,true->ak,false_eq_true->dp,and_eq_true->aK,not_eq_true'->dG,and_assoc->mY,or_eq_false_iff->ij,not_false->bX,not_true->ba
open ByteArray renaming size_extract->wz,size_append->dC,empty->FL,size->c5
open Go renaming IntKind->mH,Value->bg,Operand->dr,Oper->e8,World->bF,Program->cR,TypeInfo->Iv
open Go.Act renaming put->Tx,eval->Gg
open Go.Builtin renaming len_->va,max2->CP,min2->CQ,clear_->oc,zeroCells->fw,nextslicecap->FM,firstCells->e7,lenOf->oU,append_->g8
open Go.Instr renaming loadAt->wN,sureAddr->tD,storeAt->T_,fieldAt->T8,indexAt->T9,sliceBound->qs,sliceBounds->mw,sliceAt->pU,fill->oV,buildSlice->yE
open Go.IntKind renaming i64->ar,wrap_i64->pF
open Go.Op renaming bytesLess->cf
open Go.Oper renaming wp->Mv
open Go.Region renaming binds->me
open Go.Result renaming andThen_ok->bB
open Go.Sem renaming run_bind->cg,run_pure->cM,run->mI,run_ite->mD
open Go.World renaming frozen?->Xm,cell?_of_block->tE,setRow->kV
open Int renaming toNat_natCast->dA,natCast_mul->Ub
open List renaming mem_cons_of_mem->cW,mem_cons->cz,mem_cons_self->dy,mem_flatMap->bG,mem_of_getElem?->aQ,append_nil->dn,length_nil->ju,getElem?_toArray->gU,append_assoc->cj,getElem?_append_left->dj,getElem?_take->dV,getElem?_append_right->c6,getElem?_drop->dM,length_eq_one_iff->gF,getElem?_cons_succ->dI,getD->jt,getElem?_map->bE,getElem_mem->bD,mem_map->cJ,all_eq_true->bn,range->cO,getElem?_range->uB,getElem?_eq_none->kC,getElem?_eq_some_iff->aU,mem_of_mem_drop->kD,mem_of_mem_take->kE,getElem?_of_mem->bZ,map_toArray->Ca,map_cons->e9,map_nil->Ao,ext_getElem?->TC,eq_nil_of_length_eq_zero->fV,mem_append->a_,length_cons->c7,foldl_cons->B_,map_map->jW,map_congr_left->vi,size_toArray->TE,length_map->bQ,getD_eq_getElem?_getD->cL,getElem?_set->NU,all_cons->rW,length_take->eu,length_drop->ia,length_singleton->bw,mem_append_left->bO,mem_append_right->bI,nodup_append->ea,length_set->cw,mem_or_eq_of_mem_set->gV,nodup_cons->j6,nil_append->gk,mem_singleton->aZ,getElem?_cons_zero->rF
open List.cons renaming injEq->XM
open Nat renaming beq->bA,blt->pX,ble->fj,le_refl->cu,le_trans->db,lt_of_lt_of_le->jd,eq_of_beq_eq_true->aX,add_zero->wP,add_assoc->lB,le_of_ble_eq_true->cC,add_mul->dc,zero_le->bL,mul_le_mul_right->b7,eq_zero_or_pos->BU,div_lt_iff_lt_mul->wA,mod_lt->BV,div_add_mod->H9,mul_comm->CS,zero_add->bT,lt_or_gt_of_ne->NW,add_comm->iL,sub_self->wQ,sub_zero->uD,lt_irrefl->bu
open Option renaming some->aj,none->ao,map_some->iS,getD_some->wR
open Option.some renaming inj->aF,injEq->jh
open Prod.mk renaming inj->bU,injEq->iT
open UInt8 renaming ofNat->ax
open _root_ renaming Nat->aG,Int->az,Bool->aY,ByteArray->au,List->aA,Option->aC,Array->di,if_pos->bC,if_neg->bM,absurd->cq,cond_true->ay,cond_false->aD,decide_eq_true_eq->bf,of_decide_eq_true->b9,congrArg->mi
namespace Go.FG
inductive Ck where
 |i (k:mH)|b|s|l (e:aG)|o
inductive CV where
 |i (k:mH) (n:az)|b (x:aY)|s (x:au)|l (e:aG) (xs:aA (aA CV))
abbrev aW:=aA (aA CV)
def CV.kd:CV->Ck
 | .i k _=> .i k| .b _=> .b| .s _=> .s| .l e _=> .l e
def bY:CV->az| .i _ n=>n|_=>0
def cvB:CV->aY| .b x=>x|_=>aq
def bH:CV->au| .s x=>x|_=>⟨#[]⟩
def jx:CV->aW| .l _ xs=>xs|_=>[]
def aw(xs:aW)(i j:aG):CV:=(xs.getD i []).getD j (.b aq)
inductive AV where
 |i (k:mH) (n:az)|b (x:aY)|s (x:au)
 |sh (e:aG) (xs:aW)
 |nl
 |own (nm:aG)
 |vw (nm lo hi:aG)
 |bp (nm j:aG)
 |rp (nm i j:aG)
 |sp (e:aG) (xs:aW) (i j:aG)
 |inn (nm i j:aG)
 |ip (nm i j i2 j2:aG)
 |fn (f:aG) (iC:aA (aA CV))
 |fp (xs:aA CV) (j:aG)
inductive SV where
 |v (agg:aY) (xs:aA AV)|je (xs:aA (aY×aA AV))|un
inductive Obj where
 |box (xs:aA AV)|nC (xs:aA CV)|row (e:aG) (ex:aY) (xs:aW)|fI (e:aG) (xs:aW)|dead
inductive eE where
 |v (x:SV)|o (x:Obj)|jH
def xT(n:aG):aY:=bA (n%1000) 999&&pX n 900000000
abbrev St:=aG->eE
def o_(s:St)(k:aG)(c:eE):St:=λn=>bif bA n k then c else s n
def wr(s:St):aA (aG×eE)->St
 |[]=>s
 |(k,c)::r=>wr (o_ s k c) r
def pS(n:aG):aG:=2*n
def cX(n:aG):aG:=2*n+1
inductive Rd (α:Type) where
 |ret (a:α)|fail|get (k:aG) (f:eE->Rd α)
def Rd.bind{α β:Type}:Rd α->(α->Rd β)->Rd β
 | .ret a,f=>f a
 | .fail,_=> .fail
 | .get k g,f=> .get k λc=>(g c).bind f
def Rd.run{α:Type}:Rd α->St->aA aG->aC (α×aA aG)
 | .ret a,_,l=>aj (a,l)
 | .fail,_,_=>ao
 | .get k f,s,l=>(f (s k)).run s (k::l)
structure TI where
 agg:aY
 ks:aA Ck
 bytes:aG
inductive AA where
 |i (k:mH) (n:az)|b (x:aY)|s (x:au)|sh (e:aG) (xs:aW)|nl
 |ow (e:aG) (ex:aY) (xs:aW)|kp (xs:aW)|fn (f:aG) (iC:aA (aA CV))
inductive eV where
 |v (agg:aY) (xs:aA AA)|pt (xs:aA AA)|fb (xs:aA CV)
structure dP where
 rs:aA eV
 outs:aA (aA AA)
structure Tab where
 ty:aG->aC TI
 fo:aG->aG->aC (aG×aG)
 eqs:aA aG
 Ql:aG->aG->aY:=λ_ _=>aq
inductive Om where
 |nat|own (e:aG)|sh (e:aG)
structure fF extends Tab where
 call:aG->aA eV->aC (aY×dP)
 om:aG->aG->Om
 mode:aG->aG->aY
 keep:aG->aA aG
 tk:aG->aY
instance:Coe fF Tab:=⟨fF.toTab⟩
structure rT where
 cond:aY
 ws:aA (aG×eE)
def lZ(n:aG):aA aG->aY
 |[]=>aq|m::r=>bA n m||lZ n r
def cst:bg->SV
 | .int k n=> .v aq [.i k n]| .bool x=> .v aq [.b x]| .string x=>bif fj x.size 4611686018427387904 then .v aq [.s x]else .un
 | .slice ao 0 0=> .v aq [.nl]
 |_=> .un
def Fh(x:dr):Rd SV:=
 match x with
 | .tmp t=> .get (pS t) λ| .v x=> .ret x|_=> .ret .un
 | .const v=> .ret (cst v)
 | .func f=> .ret (.v aq [.fn f []])
 | .global _=> .fail
def jq(nm:aG):Rd Obj:= .get (cX nm) λ| .o x=> .ret x|_=> .fail
def fresh(nm:aG):Rd Unit:= .get (cX nm) λ| .jH=>bif fj nm 899999999 then .ret ()else .fail|_=> .fail
def qU(x:dr):Rd AV:=(Fh x).bind λ| .v aq [a]=> .ret a|_=> .fail
def Bk(x:dr):Rd (mH×az):=(qU x).bind λ| .i k n=> .ret (k,n)|_=> .fail
def dw(o:e8)(v:SV):aA (aG×eE):=match o.dst with|some d=>[(pS d, .v v)]|none=>[]
def val(o:e8)(v:SV):Rd rT:= .ret ⟨ak,dw o v⟩
def yx(o:e8)(v:AV):Rd rT:=val o (.v aq [v])
def Kd(o:e8)(c:aY)(v:AV):Rd rT:= .ret ⟨c,dw o (.v aq [v])⟩
def rO(E:fF)(t:aG):Rd TI:=match E.ty t with|some i=> .ret i|none=> .fail
def pw(E:fF)(t:aG):Rd Ck:=(rO E t).bind λti=>match ti.agg,ti.ks with|false,[k]=> .ret k|_,_=> .fail
def BQ:Ck->AV
 | .i k=> .i k 0| .b=> .b aq| .s=> .s ⟨#[]⟩| .l _=> .nl| .o=> .nl
def yB:Ck->CV
 | .i k=> .i k 0| .b=> .b aq| .s=> .s ⟨#[]⟩| .l e=> .l e []| .o=> .b aq
def JI(ks:aA Ck):aY:=ks.all λ| .o=>aq|_=>ak
def dec:Ck->CV->AV
 | .i k,x=> .i k (bY x)| .b,x=> .b (cvB x)| .s,x=> .s (bH x)| .l e,x=> .sh e (jx x)| .o,_=> .nl
def tO(xs:aW)(i:aG):aG->aA Ck->aA AV
 |_,[]=>[]
 |j,k::ks=>dec k (aw xs i j)::tO xs i (j+1) ks
def zl(nm:aG)(xs:aW)(i:aG):aG->aA Ck->aA AV
 |_,[]=>[]
 |j, .l _::ks=> .inn nm i j::zl nm xs i (j+1) ks
 |j,k::ks=>dec k (aw xs i j)::zl nm xs i (j+1) ks
def Wt:CV->AV
 | .i k n=> .i k n| .b x=> .b x| .s x=> .s x| .l e xs=> .sh e xs
def iG{α:Type}(xs:aA α)(j:aG)(ys:aA α):aA α:=xs.take j++ys++xs.drop (j+ys.length)
def eA(xs:aW)(i j:aG)(ys:aA CV):aW:=xs.set i (iG (xs.getD i []) j ys)
def ave(agg:aY)(xs:aA AV):SV:= .v agg xs
def eT(xs:aW)(lo hi:aG):aW:=(xs.drop lo).take (hi-lo)
def plain(ks:aA Ck):aY:=ks.all λ| .i _=>ak| .b=>ak| .s=>ak|_=>aq
def ckB:Ck->Ck->aY
 | .i a, .i b=>decide (a=b)| .b, .b=>ak| .s, .s=>ak| .l a, .l b=>bA a b| .o, .o=>ak|_,_=>aq
def pO:aA Ck->aA Ck->aY
 |[],[]=>ak|x::l,y::r=>ckB x y&&pO l r|_,_=>aq
def GR(ex:aY)(k:Ck)(a:AV):Rd (CV×aA (aG×eE)):=
 match k,a with
 | .i k, .i k' n=>if k=k' then .ret (.i k n,[])else .fail
 | .b, .b x=> .ret (.b x,[])
 | .s, .s x=> .ret (.s x,[])
 | .l e, .nl=> .ret (.l e [],[])
 | .l e, .sh e' xs=>bif bA e e'&& !ex then .ret (.l e xs,[])else .fail
 | .l e, .own nm=>(jq nm).bind λ
  | .row e' s6 xs=>bif bA e e'&&s6 then(bif ex then .ret (.l e xs,[(cX nm, .o .dead)])else .fail)else .fail
  | .fI e' xs=>bif bA e e'&& !ex then .ret (.l e xs,[])else .fail
  |_=> .fail
 |_,_=> .fail
def xO(ex:aY):aA Ck->aA AV->Rd (aA CV×aA (aG×eE))
 |[],[]=> .ret ([],[])
 |k::ks,a::r=>(GR ex k a).bind λ(c,w)=>(xO ex ks r).bind λ(cs,ws)=> .ret (c::cs,w++ws)
 |_,_=> .fail
def aeK:aA AV->aY
 |[]=>ak
 | .sh _ _::_=>aq
 |_::r=>aeK r
end Go.FG

namespace Go.FG
def aaW(op:BinOp)(k:mH)(a b:az):aC (aY×AV):=
 match op with
 | .add=>aj (ak, .i k (k.wrap (a+b)))
 | .sub=>aj (ak, .i k (k.wrap (a-b)))
 | .mul=>aj (ak, .i k (k.wrap (a*b)))
 | .quo=>aj (!(b==0), .i k (k.wrap (a.tdiv b)))
 | .rem=>aj (!(b==0), .i k (a.tmod b))
 | .and=>aj (ak, .i k (k.wrap (b_ k.bits a&&&b_ k.bits b).toNat))
 | .or=>aj (ak, .i k (k.wrap (b_ k.bits a|||BitVec.ofInt k.bits b).toNat))
 | .xor=>aj (ak, .i k (k.wrap (b_ k.bits a^^^b_ k.bits b).toNat))
 | .eql=>aj (ak, .b (a==b))
 | .neq=>aj (ak, .b (a !=b))
 | .lss=>aj (ak, .b (decide (a<b)))
 | .leq=>aj (ak, .b (decide (a<=b)))
 | .gtr=>aj (ak, .b (decide (a>b)))
 | .geq=>aj (ak, .b (decide (a≥b)))
 |_=>ao
def aaY(op:BinOp)(a b:au):aC (aY×AV):=
 match op with
 | .add=>aj (decide (a.size+b.size<=4611686018427387904), .s (a++b))
 | .eql=>aj (ak, .b (a.toList==b.toList))
 | .neq=>aj (ak, .b (!(a.toList==b.toList)))
 | .lss=>aj (ak, .b (cf a.toList b.toList))
 | .leq=>aj (ak, .b (cf a.toList b.toList||a.toList==b.toList))
 | .gtr=>aj (ak, .b (!(cf a.toList b.toList||a.toList==b.toList)))
 | .geq=>aj (ak, .b (!(cf a.toList b.toList)))
 |_=>ao
def UF:aA AV->aA AV->aC aY
 |[],[]=>aj ak
 | .i k a::l, .i k' b::r=>if k=k' then(match UF l r with|some t=>aj ((a==b)&&t)|none=>ao)else ao
 | .b a::l, .b b::r=>match UF l r with|some t=>aj ((a==b)&&t)|none=>ao
 | .s a::l, .s b::r=>match UF l r with|some t=>aj ((a.toList==b.toList)&&t)|none=>ao
 |_,_=>ao
def E4:AV->Ck
 | .i k _=> .i k| .b _=> .b| .s _=> .s|_=> .o
def IM(op:BinOp)(k:Ck):AV->AV->aC (aY×AV)
 | .i k a, .i k' b=>if k=k' then aaW op k a b else ao
 | .s a, .s b=>aaY op a b
 | .b a, .b b=>match op,k with| .eql, .b=>aj (ak, .b (a==b))| .neq, .b=>aj (ak, .b (!(a==b)))|_,_=>ao
 |_,_=>ao
def shV(op:BinOp):AV->AV->aC (aY×AV)
 | .i k a, .i _ b=>match op with
  | .shl=>aj (decide (0<=b), .i k (k.wrap (a*2^(min b.toNat k.bits))))
  | .shr=>aj (decide (0<=b), .i k (a.fdiv (2^(min b.toNat k.bits))))
  |_=>ao
 |_,_=>ao
def M_:BinOp->aY| .shl=>ak| .shr=>ak|_=>aq
def isEq:BinOp->aY| .eql=>ak| .neq=>ak|_=>aq
def RN{α:Type}:aC α->Rd α|some a=> .ret a|none=> .fail
def aaX(E:fF)(t:aG)(op:BinOp)(x y:SV):Rd (aY×AV):=
 match x,y with
 | .v aq [a], .v aq [b]=>bif M_ op then RN (shV op a b)else(pw E t).bind λk=>RN (IM op k a b)
 | .v ak xs, .v ak ys=>(rO E t).bind λti=>
   bif isEq op&&lZ t E.eqs&&pO (xs.map E4) ti.ks&&pO (ys.map E4) ti.ks&&plain ti.ks then RN (match UF xs ys with|some r=>aj (ak,AV.b (match op with| .eql=>r|_=> !r))|none=>ao)else .fail
 |_,_=> .fail
def Ld:aA AV->aA (aG×aA AV)->aA AV
 |z,[]=>z
 |z,(j,ys)::r=>Ld (iG z j ys) r
def Fj(E:fF)(t:aG):aA (aG×dr)->Rd (aA (aG×aA AV))
 |[]=> .ret []
 |(f,x)::r=>(Fh x).bind λ
  | .v _ ys=>match E.fo t f with
   |some (o,n)=>bif bA ys.length n then(Fj E t r).bind λl=> .ret ((o,ys)::l)else .fail
   |none=> .fail
  |_=> .fail
def lU(E:fF)(a:AV):Rd (aG×aW):=
 match a with
 | .sh e xs=> .ret (e,xs)
 | .own nm=>(jq nm).bind λ| .row e _ xs=> .ret (e,xs)| .fI e xs=> .ret (e,xs)|_=> .fail
 | .vw nm lo hi=>(jq nm).bind λ| .row e _ xs=> .ret (e,eT xs lo hi)| .fI e xs=> .ret (e,eT xs lo hi)|_=> .fail
 | .inn nm i j=>(jq nm).bind λ
  | .row e ak xs=>(rO E e).bind λti=>match ti.ks[j]? with|some (.l e2)=> .ret (e2,jx (aw xs i j))|_=> .fail
  |_=> .fail
 |_=> .fail
def abX(E:fF)(k:Ck)(a:AV):Rd az:=
 match k,a with
 | .s, .s x=> .ret x.size
 | .l _, .nl=> .ret 0
 | .l _, .vw nm lo hi=>(jq nm).bind λ| .row _ _ _=> .ret ((hi-lo:aG):az)| .fI _ _=> .ret ((hi-lo:aG):az)|_=> .fail
 | .l _,a=>(lU E a).bind λ(_,xs)=> .ret xs.length
 |_,_=> .fail
def I8(ex:aY)(ks:aA Ck):aA (aG×dr)->aW->Rd (aW×aA (aG×eE))
 |[],z=> .ret (z,[])
 |(i,x)::r,z=>(Fh x).bind λ
  | .v _ ys=>bif fj (i+1) z.length then(xO ex ks ys).bind λ(cs,w)=>(I8 ex ks r (z.set i cs)).bind λ(z,ws)=> .ret (z,w++ws)else .fail
  |_=> .fail
def K9:aA (aG×dr)->Rd aY
 |[]=> .ret ak
 |(_,x)::r=>(Fh x).bind λ
  | .v _ ys=>(K9 r).bind λb=> .ret (aeK ys&&b)
  |_=> .fail
def aT(ks:aA Ck)(n:aG):aW:=List.replicate n (ks.map yB)
def bytesOf(xs:aW):au:=⟨(xs.map λy=>ax (bY (y.getD 0 (.b aq))).toNat).toArray⟩
def qm(s:au):aW:=s.data.toList.map λb=>[.i .u8 (b.toNat:az)]
def u8s:aA Ck->aY|[.i .u8]=>ak|_=>aq
def flat(E:fF)(ks:aA Ck):aY:=ks.all λ
 | .l e=>match E.ty e with|some ti=>plain ti.ks|none=>aq
 |_=>ak
def cK(n:aG)(bytes:aG):aY:=decide (n*bytes<=140737488355328)&&decide (n<=9223372036854775807)
def sw(E:fF)(ti:TI)(p:AV):Rd (aA AV):=
 match p with
 | .bp nm j=>(jq nm).bind λ
  | .box xs=>bif fj (j+ti.ks.length) xs.length then .ret ((xs.drop j).take ti.ks.length)else .fail
  | .nC xs=>bif fj (j+ti.ks.length) xs.length then .ret (((xs.drop j).take ti.ks.length).map Wt)else .fail
  |_=> .fail
 | .fp xs j=>bif fj (j+ti.ks.length) xs.length then .ret (((xs.drop j).take ti.ks.length).map Wt)else .fail
 | .sp e xs i j=>(rO E e).bind λte=>bif pO ((te.ks.drop j).take ti.ks.length) ti.ks then .ret (tO xs i j ti.ks)else .fail
 | .rp nm i j=>(jq nm).bind λ
  | .row e ex xs=>(rO E e).bind λte=>bif pO ((te.ks.drop j).take ti.ks.length) ti.ks then(bif ex&&xT nm then(bif plain ti.ks then .ret (tO xs i j ti.ks)else .fail)else .ret (bif ex then zl nm xs i j ti.ks else tO xs i j ti.ks))else .fail
  | .fI e xs=>(rO E e).bind λte=>bif pO ((te.ks.drop j).take ti.ks.length) ti.ks then .ret (tO xs i j ti.ks)else .fail
  |_=> .fail
 | .ip nm i j i2 j2=>(jq nm).bind λ
  | .row e ak xs=>(rO E e).bind λte=>match te.ks[j]? with
   |some (.l e2)=>(rO E e2).bind λt2=>bif pO ((t2.ks.drop j2).take ti.ks.length) ti.ks then .ret (tO (jx (aw xs i j)) i2 j2 ti.ks)else .fail
   |_=> .fail
  |_=> .fail
 |_=> .fail
def Fx(E:fF)(p:AV)(ys:aA AV):Rd (aA (aG×eE)):=
 match p with
 | .bp nm j=>(jq nm).bind λ
  | .box xs=>bif fj (j+ys.length) xs.length then .ret [(cX nm, .o (.box (iG xs j ys)))]else .fail
  |_=> .fail
 | .rp nm i j=>(jq nm).bind λ
  | .row e ex xs=>(rO E e).bind λte=>bif plain ((te.ks.drop j).take ys.length)then(xO aq ((te.ks.drop j).take ys.length) ys).bind λ(cs,_)=> .ret [(cX nm, .o (.row e ex (eA xs i j cs)))]else .fail
  |_=> .fail
 | .ip nm i j i2 j2=>(jq nm).bind λ
  | .row e ak xs=>(rO E e).bind λte=>match te.ks[j]? with
   |some (.l e2)=>(rO E e2).bind λt2=>bif plain t2.ks then(xO aq ((t2.ks.drop j2).take ys.length) ys).bind λ(cs,_)=>
    .ret [(cX nm, .o (.row e ak (eA xs i j [.l e2 (eA (jx (aw xs i j)) i2 j2 cs)])))]else .fail
   |_=> .fail
  |_=> .fail
 |_=> .fail
def HA:aA AV->aY
 |[]=>ak
 | .own _::_=>aq
 |_::r=>HA r
def xZ:aG->aA AV->aC (aG×aG)
 |_,[]=>ao
 |q, .own n::r=>bif HA r then aj (q,n)else ao
 |q,_::r=>xZ (q+1) r
def Cq(e2 n2:aG)(zs:aW):aA Ck->aA AV->aC (aA CV)
 |[],[]=>aj []
 | .i k::ks, .i k' x::r=>if k=k' then(Cq e2 n2 zs ks r).map (.i k x:: ·)else ao
 | .b::ks, .b x::r=>(Cq e2 n2 zs ks r).map (.b x:: ·)
 | .s::ks, .s x::r=>(Cq e2 n2 zs ks r).map (.s x:: ·)
 | .l e::ks, .own n::r=>bif bA e e2&&bA n n2 then(Cq e2 n2 zs ks r).map (.l e2 zs:: ·)else ao
 |_,_=>ao
def Fw(E:fF)(n i j:aG)(ys:aA AV):Rd (aA (aG×eE)):=
 (jq n).bind λ
 | .row e ak xs=>(rO E e).bind λte=>match xZ 0 ys with
  |some (q,n2)=>bif bA n n2 then .fail else(jq n2).bind λ
   | .row e2 ak zs=>(rO E e2).bind λt2=>bif plain t2.ks&&fj (j+ys.length) te.ks.length then(match Cq e2 n2 zs ((te.ks.drop j).take ys.length) ys with
    |some cs=> .ret [(cX n, .o (.row e ak (eA xs i j cs))),(cX n2, .o .dead)]
    |none=> .fail)else .fail
   |_=> .fail
  |none=> .fail
 |_=> .fail
def S0(E:fF)(p:AV)(ys:aA AV):Rd (aA (aG×eE)):=
 match p with
 | .rp n i j=>bif xT n then Fw E n i j ys else Fx E (.rp n i j) ys
 |p=>Fx E p ys
def Qg(E:fF)(t:aG)(f:aG)(p:AV):Rd AV:=
 match E.fo t f with
 |none=> .fail
 |some (o,_)=>match p with
  | .bp nm j=> .ret (.bp nm (j+o))
  | .rp nm i j=> .ret (.rp nm i (j+o))
  | .sp e xs i j=> .ret (.sp e xs i (j+o))
  | .ip nm i j i2 j2=> .ret (.ip nm i j i2 (j2+o))
  | .fp xs j=> .ret (.fp xs (j+o))
  |_=> .fail
def QN(E:fF)(e:aG)(x:AV)(n:az):Rd (aY×AV):=
 match x with
 | .sh e' xs=>bif bA e e' then .ret (decide (0<=n)&&decide (n<(xs.length:az)), .sp e' xs n.toNat 0)else .fail
 | .own nm=>(jq nm).bind λ
  | .row e' _ xs=>bif bA e e' then .ret (decide (0<=n)&&decide (n<(xs.length:az)), .rp nm n.toNat 0)else .fail
  | .fI e' xs=>bif bA e e' then .ret (decide (0<=n)&&decide (n<(xs.length:az)), .rp nm n.toNat 0)else .fail
  |_=> .fail
 | .vw nm lo hi=>(jq nm).bind λ
  | .row e' _ xs=>bif bA e e' then .ret (decide (0<=n)&&decide (n<((hi-lo:aG):az)), .rp nm (lo+n.toNat) 0)else .fail
  | .fI e' xs=>bif bA e e' then .ret (decide (0<=n)&&decide (n<((hi-lo:aG):az)), .rp nm (lo+n.toNat) 0)else .fail
  |_=> .fail
 | .inn nm i j=>(jq nm).bind λ
  | .row e1 ak xs=>(rO E e1).bind λte=>match te.ks[j]? with
   |some (.l e')=>bif bA e e' then .ret (decide (0<=n)&&decide (n<((jx (aw xs i j)).length:az)), .ip nm i j n.toNat 0)else .fail
   |_=> .fail
  |_=> .fail
 |_=> .fail
def nE(x:aC dr)(d:az):Rd az:=
 match x with
 |none=> .ret d
 |some x=>(Bk x).bind λ(_,n)=> .ret n
def iQ(l h n:az):aY:=decide (0<=l)&&decide (l<=h)&&decide (h<=n)
def Sl(e:aG)(x:AV)(lo hi:aC dr):Rd (aY×AV):=
 match x with
 | .sh e' xs=>bif bA e e' then(nE lo 0).bind λl=>(nE hi xs.length).bind λh=> .ret (iQ l h xs.length, .sh e' (eT xs l.toNat h.toNat))else .fail
 | .own nm=>(jq nm).bind λ
  | .row e' _ xs=>bif bA e e' then(nE lo 0).bind λl=>(nE hi xs.length).bind λh=> .ret (iQ l h xs.length, .vw nm l.toNat h.toNat)else .fail
  | .fI e' xs=>bif bA e e' then(nE lo 0).bind λl=>(nE hi xs.length).bind λh=> .ret (iQ l h xs.length, .vw nm l.toNat h.toNat)else .fail
  |_=> .fail
 | .vw nm a b=>(jq nm).bind λ
  | .row e' _ _=>bif bA e e' then(nE lo 0).bind λl=>(nE hi ((b-a:aG):az)).bind λh=> .ret (iQ l h ((b-a:aG):az), .vw nm (a+l.toNat) (a+h.toNat))else .fail
  | .fI e' _=>bif bA e e' then(nE lo 0).bind λl=>(nE hi ((b-a:aG):az)).bind λh=> .ret (iQ l h ((b-a:aG):az), .vw nm (a+l.toNat) (a+h.toNat))else .fail
  |_=> .fail
 | .nl=>(nE lo 0).bind λl=>(nE hi 0).bind λh=> .ret (iQ l h 0, .nl)
 |_=> .fail
def J4(E:fF)(k:Ck)(x:AV)(lo hi:aC dr):Rd (aY×AV):=
 match k,x with
 | .s, .s a=>(nE lo 0).bind λl=>(nE hi a.size).bind λh=> .ret (iQ l h a.size, .s (a.extract l.toNat h.toNat))
 | .l e,x=>(rO E e).bind λ_=>Sl e x lo hi
 |_,_=> .fail
def vB(e:aG)(s:AV):Rd (aY×aW×aA aG):=
 match s with
 | .nl=> .ret (ak,[],[])
 | .own nm=>(jq nm).bind λ
  | .row e' ex xs=>bif bA e e' then .ret (ex,xs,[nm])else .fail
  |_=> .fail
 | .vw nm lo hi=>(jq nm).bind λ
  | .row e' ex xs=>bif bA e e' then .ret (ex,eT xs lo hi,[nm])else .fail
  |_=> .fail
 |_=> .fail
def Re(E:fF)(sB e:aG)(ks:aA Ck)(b:aA aG)(x:AV):Rd (aY×aW×aA (aG×eE)):=
 match x with
 | .s a=>bif u8s ks then .ret (ak,qm a,[])else .fail
 | .nl=> .ret (ak,[],[])
 | .sh e' xs=>bif bA e e' then .ret (plain ks,xs,[])else .fail
 | .own nm=>(jq nm).bind λ
  | .row e' ex xs=>bif bA e e' then
    (bif plain ks|| !ex then .ret (plain ks,xs,[])
    else bif lZ nm b then .fail
    else bif E.tk sB then .ret (aq,xs,[(cX nm, .o (.fI e xs))])else .ret (ak,xs,[(cX nm, .o .dead)]))else .fail
  | .fI e' xs=>bif bA e e' then .ret (plain ks,xs,[])else .fail
  |_=> .fail
 | .vw nm lo hi=>(jq nm).bind λ
  | .row e' ex xs=>bif bA e e' then
    (bif plain ks|| !ex then .ret (plain ks,eT xs lo hi,[])
    else bif lZ nm b then .fail
    else bif E.tk sB then .ret (aq,eT xs lo hi,[(cX nm, .o (.fI e xs))])else .fail)else .fail
  | .fI e' xs=>bif bA e e' then .ret (plain ks,eT xs lo hi,[])else .fail
  |_=> .fail
 | .inn nm i j=>bif plain ks then(lU E (.inn nm i j)).bind λ(e',xs)=>bif bA e e' then .ret (ak,xs,[])else .fail else .fail
 |_=> .fail
def nN(b:aA aG):aA (aG×eE):=b.map λn=>(cX n, .o .dead)
def EC(E:fF)(sB:aG)(t:aG)(s x:AV):Rd (aY×AV×aA (aG×eE)):=
 (rO E t).bind λti=>match ti.agg,ti.ks with
 |false,[.l e]=>(rO E e).bind λte=>bif JI te.ks then(vB e s).bind λ(B0,xs,b)=>
  (Re E sB e te.ks b x).bind λ(zm,ys,w2)=>(fresh sB).bind λ_=>
  .ret (cK (xs.length+ys.length) te.bytes, .own sB,nN b++(w2++[(cX sB, .o (.row e (B0&&zm) (xs++ys)))]))else .fail
 |_,_=> .fail
def Tt(E:fF)(sB:aG)(t:aG)(s:AV)(n:az):Rd (aY×AV×aA (aG×eE)):=
 (rO E t).bind λti=>match ti.agg,ti.ks with
 |false,[.l e]=>(rO E e).bind λte=>bif JI te.ks&&flat E te.ks then(vB e s).bind λ(ex,xs,b)=>(fresh sB).bind λ_=>
  .ret (decide (0<=n)&&cK (xs.length+n.toNat) te.bytes&&decide (n<=9223372036854775807), .own sB,nN b++[(cX sB, .o (.row e ex (xs++aT te.ks n.toNat)))])else .fail
 |_,_=> .fail
def P_(E:fF)(e:aG)(x:AV):Rd (aA (aG×eE)):=
 match x with
 | .own nm=>(jq nm).bind λ
  | .row e' ex xs=>(rO E e).bind λte=>bif bA e e'&&plain te.ks then .ret [(cX nm, .o (.row e' ex (aT te.ks xs.length)))]else .fail
  |_=> .fail
 | .vw nm lo hi=>(jq nm).bind λ
  | .row e' ex xs=>(rO E e).bind λte=>bif bA e e'&&plain te.ks then .ret [(cX nm, .o (.row e' ex (xs.take lo++aT te.ks (hi-lo)++xs.drop hi)))]else .fail
  |_=> .fail
 | .nl=> .ret []
 |_=> .fail
def k8(mx:aY)(a b:az):az:=bif mx then(if b>a then b else a)else(if b<a then b else a)
def vT(mx:aY):aA dr->mH->az->Rd AV
 |[],k,a=> .ret (.i k a)
 |x::r,k,a=>(Bk x).bind λ(_,b)=>vT mx r k (k8 mx a b)
end Go.FG

namespace Go.FG
inductive Src where
 |own (nm e:aG) (ex:aY)|no
structure Pk where
 a:AA
 src:Src
 rd:aA aG
def yU(E:fF)(mt:aY)(a:AV):Rd Pk:=
 match a with
 | .i k n=> .ret ⟨.i k n, .no,[]⟩| .b x=> .ret ⟨.b x, .no,[]⟩| .s x=> .ret ⟨.s x, .no,[]⟩
 | .sh e xs=> .ret ⟨.sh e xs, .no,[]⟩
 | .nl=> .ret ⟨.nl, .no,[]⟩
 | .fn f iC=> .ret ⟨.fn f iC, .no,[]⟩
 | .own nm=>(jq nm).bind λ
  | .row e ex xs=>bif mt then .ret ⟨.ow e ex xs, .own nm e ex,[]⟩else .ret ⟨.sh e xs, .no,[nm]⟩
  | .fI e xs=> .ret ⟨.sh e xs, .no,[]⟩
  |_=> .fail
 | .vw nm lo hi=>bif mt then .fail else(jq nm).bind λ
  | .row e _ xs=> .ret ⟨.sh e (eT xs lo hi), .no,[nm]⟩
  | .fI e xs=> .ret ⟨.sh e (eT xs lo hi), .no,[]⟩
  |_=> .fail
 | .inn nm i j=>(jq nm).bind λ
  | .row e ak xs=>(rO E e).bind λte=>match te.ks[j]? with
   |some (.l e2)=>(rO E e2).bind λt2=>bif plain t2.ks&& !mt then .ret ⟨.sh e2 (jx (aw xs i j)), .no,[nm]⟩else .fail
   |_=> .fail
  |_=> .fail
 |_=> .fail
def Bt(E:fF)(mt:aY):aA AV->Rd (aA Pk)
 |[]=> .ret []
 |a::r=>(yU E mt a).bind λp=>(Bt E mt r).bind λl=> .ret (p::l)
structure Pa where
 arg:eV
 box:aC (aG×aA AV)
 cs:aA Pk
def aaS(E:fF)(mt:aY)(x:SV):Rd Pa:=
 match x with
 | .v aq [.bp nm 0]=>bif mt then(jq nm).bind λ
   | .box xs=>(Bt E ak xs).bind λl=> .ret ⟨.pt (l.map (·.a)),aj (nm,xs),l⟩
   |_=> .fail
  else .fail
 | .v agg xs=>(Bt E mt xs).bind λl=> .ret ⟨.v agg (l.map (·.a)),ao,l⟩
 |_=> .fail
def Wp:Ck->AV->AV
 | .l e, .nl=> .sh e []
 |_,a=>a
def Bg:aA Ck->aA AV->aA AV
 |k::ks,a::r=>Wp k a::Bg ks r
 |_,r=>r
def nlz(E:Tab)(t:aC aG)(v:SV):SV:=
 match t with
 |none=>v
 |some t=>match E.ty t,v with
  |some ti, .v g xs=> .v g (Bg ti.ks xs)
  |_,v=>v
def PW(E:fF)(f:aG)(Ob:aC (aA aG)):aG->aA dr->Rd (aA Pa)
 |_,[]=> .ret []
 |p,x::r=>(Fh x).bind λv=>(aaS E (E.mode f p) (bif E.mode f p then v else nlz E (match Ob with|some l=>l[p]? |none=>ao) v)).bind λa=>bif fj a.cs.length 100 then(PW E f Ob (p+1) r).bind λl=> .ret (a::l)else .fail
def Pk.tc(p:Pk):aA aG:=match p.src with| .own nm _ _=>[nm]| .no=>[]
def Pa.tc(p:Pa):aA aG:=(match p.box with|some (nm,_)=>[nm]|none=>[])++p.cs.flatMap (·.tc)
def Pa.mW(p:Pa):aA aG:=p.cs.flatMap (·.rd)
def sC:aA aG->aY
 |[]=>ak|n::r=> !lZ n r&&sC r
def qL:aA aG->aA aG->aY
 |[],_=>ak|n::r,l=> !lZ n l&&qL r l
def qN(ok:aY)(nm:aG)(a:AA):Rd (AV×aA (aG×eE)):=
 match a with
 | .i k n=> .ret (.i k n,[])| .b x=> .ret (.b x,[])| .s x=> .ret (.s x,[])| .nl=> .ret (.nl,[])
 | .sh e xs=>bif ok then .ret (.sh e xs,[])else .fail
 | .ow e ex xs=>bif ex||ok then(fresh nm).bind λ_=> .ret (.own nm,[(cX nm, .o (.row e ex xs))])else .fail
 |_=> .fail
def zC(ok:aY):aG->aA AA->Rd (aA AV×aA (aG×eE))
 |_,[]=> .ret ([],[])
 |nm,a::r=>(qN ok nm a).bind λ(v,w)=>(zC ok (nm+1) r).bind λ(vs,ws)=> .ret (v::vs,w++ws)
def EF(ok:aY)(nm:aG)(a:eV):Rd ((aY×aA AV)×aA (aG×eE)):=
 match a with
 | .v agg xs=>(zC ok nm xs).bind λ(vs,ws)=> .ret ((agg,vs),ws)
 | .pt xs=>(zC ok nm xs).bind λ(vs,ws)=>(fresh (nm+30)).bind λ_=> .ret ((aq,[.bp (nm+30) 0]),ws++[(cX (nm+30), .o (.box vs))])
 | .fb _=> .fail
def AE(ok:aY):aG->aA eV->Rd (aA (aY×aA AV)×aA (aG×eE))
 |_,[]=> .ret ([],[])
 |nm,a::r=>(EF ok nm a).bind λ(v,w)=>(AE ok (nm+40) r).bind λ(vs,ws)=> .ret (v::vs,w++ws)
def DA(ok:aY)(p:Pk)(a:AA):Rd (aA (aG×eE)):=
 match p.src,a with
 | .no,_=> .ret []
 | .own nm e ex, .kp xs=>bif ex||ok then .ret [(cX nm, .o (.row e ex xs))]else .fail
 | .own nm _ _, .nl=> .ret [(cX nm, .o .dead)]
 |_,_=> .fail
def JQ(ok:aY):aA Pk->aA AA->Rd (aA (aG×eE))
 |[],_=> .ret []
 |p::r,l=>(DA ok p (l.headD .nl)).bind λw=>(JQ ok r l.tail).bind λws=> .ret (w++ws)
def Bo(ok:aY)(nm:aG)(p:Pk)(v:AV)(a:AA):Rd (AV×aA (aG×eE)):=
 match p.src,a with
 | .own n e ex, .kp xs=>bif ex||ok then .ret (v,[(cX n, .o (.row e ex xs))])else .fail
 | .own n _ _,a=>(qN ok nm a).bind λ(v,w)=> .ret (v,(cX n, .o .dead)::w)
 | .no,a=>qN ok nm a
def qW(ok:aY):aG->aA Pk->aA AV->aA AA->Rd (aA AV×aA (aG×eE))
 |_,[],[],[]=> .ret ([],[])
 |nm,p::ps,v::vs,a::as=>(Bo ok nm p v a).bind λ(v,w)=>(qW ok (nm+1) ps vs as).bind λ(vs,ws)=> .ret (v::vs,w++ws)
 |_,_,_,_=> .fail
def RO(ok:aY)(nm:aG)(p:Pa)(l:aA AA):Rd (aA (aG×eE)):=
 match p.box with
 |some (n,vs)=>(qW ok nm p.cs vs l).bind λ(vs,ws)=> .ret (ws++[(cX n, .o (.box vs))])
 |none=>JQ ok p.cs l
def JP(ok:aY):aG->aA Pa->aA (aA AA)->Rd (aA (aG×eE))
 |_,[],_=> .ret []
 |nm,p::r,l=>(RO ok nm p (l.headD [])).bind λw=>(JP ok (nm+40) r l.tail).bind λws=> .ret (w++ws)
def rC:aA (aY×aA AV)->SV
 |[(agg,xs)]=> .v agg xs
 |l=> .je l
def mL:eV->aG| .v _ xs=>xs.length| .pt xs=>xs.length| .fb _=>0
def Qp:aA aG->Rd (aA (aG×eE))
 |[]=> .ret []
 |n::r=>(jq n).bind λ
  | .row e _ xs=>(Qp r).bind λws=> .ret ((cX n, .o (.fI e xs))::ws)
  |_=> .fail
def EH(E:fF)(nm:aG)(o:e8)(f:aG)(args:aA dr)(Ob:aC (aA aG))(iC:aA (aA CV)):Rd rT:=
 (PW E f Ob 0 args).bind λps=>
  bif sC (ps.flatMap (·.tc))&&qL (ps.flatMap (·.tc)) (ps.flatMap (·.mW))then
   match E.call f (ps.map (·.arg)++iC.map eV.fb)with
   |some (c,r)=>bif fj ps.length 400&&(r.rs.all λa=>fj (mL a) 30)&&(r.outs.all λa=>fj a.length 100)then(Qp (bif E.tk nm then ps.flatMap (·.mW)else [])).bind λw0=>
    (JP (E.tk nm||(ps.flatMap (·.mW)).isEmpty) (nm+400) ps r.outs).bind λw1=>(AE (E.tk nm||(ps.flatMap (·.mW)).isEmpty) (nm+1) r.rs).bind λ(vs,w2)=>
    bif sC ((w1++w2).map (·.1))then .ret ⟨c,w0++(w1++w2)++dw o (rC vs)⟩else .fail else .fail
   |none=> .fail
  else .fail
def Rd.or{α:Type}:Rd α->Rd α->Rd α
 | .ret a,_=> .ret a
 | .fail,y=>y
 | .get k f,y=> .get k λc=>(f c).or y
def KZ(E:fF)(nm:aG)(o:e8)(f:aG)(args:aA dr)(Ob:aA aG)(iC:aA (aA CV)):Rd rT:=
 (EH E nm o f args ao iC).or (EH E nm o f args (aj Ob) iC)
def A7(E:fF)(o:e8)(f n i j:aG)(y:dr):Rd rT:=
 (Bk y).bind λ(k,m)=>(jq n).bind λ
  | .row e ak xs=>(rO E e).bind λte=>match te.ks[j]? with
   |some (.l e2)=>match E.call f [.v aq [.ow e2 ak (jx (aw xs i j))], .v aq [.i k m]]with
    |some (c,r)=>match r.rs,r.outs with
     |[.v aq [.i k2 m2]],[[.kp ys]]=> .ret ⟨c,(cX n, .o (.row e ak (eA xs i j [.l e2 ys])))::dw o (.v aq [.i k2 m2])⟩
     |_,_=> .fail
    |none=> .fail
   |_=> .fail
  |_=> .fail
def P6:aA dr->Rd (aA (aA CV)×aA (aG×eE))
 |[]=> .ret ([],[])
 |x::r=>(qU x).bind λ
  | .bp nm 0=>(jq nm).bind λ
   | .box xs=>(aaZ xs).bind λcs=>(P6 r).bind λ(l,ws)=> .ret (cs::l,(cX nm, .o (.nC cs))::ws)
   | .nC cs=>(P6 r).bind λ(l,ws)=> .ret (cs::l,ws)
   |_=> .fail
  |_=> .fail
where aaZ:aA AV->Rd (aA CV)
 |[]=> .ret []
 |a::r=>(aaZ r).bind λl=>match a with
  | .i k n=> .ret (.i k n::l)| .b x=> .ret (.b x::l)| .s x=> .ret (.s x::l)
  | .sh e xs=> .ret (.l e xs::l)
  |_=> .fail
def lF(E:fF)(nm:aG)(o:e8):Rd rT:=
 match o.op with
 | .move x| .assign x=>(Fh x).bind λv=>val o v
 | .nilCheck x=>(qU x).bind λp=>match p with
  | .bp nm j=>val o (.v aq [.bp nm j])
  | .rp nm i j=>val o (.v aq [.rp nm i j])
  |_=> .fail
 | .pick c a b=>(qU c).bind λc=>(Fh a).bind λa=>(Fh b).bind λb=>
  match c,a,b with
  | .b c, .v aq [.b p], .v aq [.b q]=>yx o (.b (bif c then p else q))
  | .b c, .je [],b=> .ret ⟨!c,dw o b⟩
  | .b c,a, .je []=> .ret ⟨c,dw o a⟩
  |_,_,_=> .fail
 | .alloc t=>(rO E t).bind λti=>bif JI ti.ks then(fresh nm).bind λ_=> .ret ⟨ak,(cX nm, .o (.box (ti.ks.map BQ)))::dw o (.v aq [.bp nm 0])⟩else .fail
 | .box t x=>(Fh x).bind λ
  | .v _ xs=>(fresh nm).bind λ_=> .ret ⟨ak,(cX nm, .o (.box xs))::dw o (.v aq [.bp nm 0])⟩
  |_=> .fail
 | .build t ps=>(rO E t).bind λti=>bif JI ti.ks&&ti.agg then(Fj E t ps.toList).bind λl=>val o (.v ak (Ld (ti.ks.map BQ) l))else .fail
 | .buildSlice t n ps=>(rO E t).bind λti=>match ti.agg,ti.ks with
  |false,[.l e]=>(rO E e).bind λte=>bif JI te.ks then(K9 ps.toList).bind λex=>(I8 (ex&&flat E te.ks) te.ks ps.toList (aT te.ks n)).bind λ(xs,w)=>(fresh nm).bind λ_=>
   .ret ⟨fj (n*te.ks.length) 16777216&&sC (w.map (·.1)),w++(cX nm, .o (.row e (ex&&flat E te.ks) xs))::dw o (.v aq [.own nm])⟩else .fail
  |_,_=> .fail
 | .load t p=>(rO E t).bind λti=>(qU p).bind λp=>(sw E ti p).bind λxs=>val o (.v ti.agg xs)
 | .store t p x=>(rO E t).bind λti=>(qU p).bind λp=>(Fh x).bind λ
  | .v _ ys=>bif bA ys.length ti.ks.length then(S0 E p ys).bind λw=> .ret ⟨ak,w++dw o .un⟩else .fail
  |_=> .fail
 | .fieldAddr t p f=>(qU p).bind λp=>(Qg E t f p).bind λq=>yx o q
 | .field t x f=>(Fh x).bind λ
  | .v ak xs=>match E.fo t f with
   |some (j,n)=>bif E.Ql t f&&bA n 1 then(match xs.drop j with|a::_=>yx o a|[]=> .fail)else .fail
   |none=> .fail
  |_=> .fail
 | .indexAddr t x i=>(pw E t).bind λ
  | .l e=>(qU x).bind λx=>(Bk i).bind λ(_,n)=>(QN E e x n).bind λ(c,q)=>Kd o c q
  |_=> .fail
 | .index t x i=>(pw E t).bind λk=>(qU x).bind λx=>(Bk i).bind λ(_,n)=>match k,x with
  | .s, .s a=>Kd o (decide (0<=n)&&decide (n<(a.size:az))) (.i .u8 ((a.data.getD n.toNat 0).toNat:az))
  |_,_=> .fail
 | .binOp op t x y _=>(Fh x).bind λx=>(Fh y).bind λy=>(aaX E t op x y).bind λ(c,v)=>Kd o c v
 | .unOp op _ x=>(qU x).bind λx=>match op,x with
  | .not, .b x=>yx o (.b (!x))
  | .neg, .i k n=>yx o (.i k (k.wrap (0-n)))
  |_,_=> .fail
 | .convert src dst x=>(pw E src).bind λks=>(pw E dst).bind λkd=>(qU x).bind λx=>match kd,ks,x with
  | .i k, .i _, .i _ n=>yx o (.i k (k.wrap n))
  | .s, .s, .s a=>yx o (.s a)
  | .s, .l e', .nl=>(rO E e').bind λte=>bif u8s te.ks&& !te.agg then yx o (.s ⟨#[]⟩)else .fail
  | .s, .l e',a=>(lU E a).bind λ(e,xs)=>(rO E e).bind λte=>bif bA e e'&&u8s te.ks&& !te.agg then Kd o (decide (xs.length<=4611686018427387904)) (.s (bytesOf xs))else .fail
  |_,_,_=> .fail
 | .makeSlice t l c=>(Bk l).bind λ(_,n)=>(Bk c).bind λ(_,m)=>(rO E t).bind λti=>match ti.agg,ti.ks with
  |false,[.l e]=>(rO E e).bind λte=>bif JI te.ks&&flat E te.ks then(fresh (bif plain te.ks then nm else nm+999)).bind λ_=> .ret ⟨decide (0<=n)&&decide (n=m)&&cK n.toNat te.bytes,(cX (bif plain te.ks then nm else nm+999), .o (.row e ak (aT te.ks n.toNat)))::dw o (.v aq [.own (bif plain te.ks then nm else nm+999)])⟩else .fail
  |_,_=> .fail
 | .slice t x lo hi mx=>match mx with
  |some _=> .fail
  |none=>(pw E t).bind λk=>(qU x).bind λx=>(J4 E k x lo hi).bind λ(c,v)=>Kd o c v
 | .extract x i=>(Fh x).bind λ
  | .je l=>match l[i]? with|some (agg,xs)=>val o (.v agg xs)|none=> .fail
  |_=> .fail
 | .makeFunc (.func f) first iC=>bif first.isEmpty then(P6 iC.toList).bind λ(l,ws)=> .ret ⟨ak,ws++dw o (.v aq [.fn f l])⟩else .fail
 | .call c=>match c.callee with
  | .builtin .len=>match c.args.toList,c.argTypes.toList with
   |[x],[t]=>(pw E t).bind λk=>(qU x).bind λx=>(abX E k x).bind λn=>yx o (.i .i64 n)
   |_,_=> .fail
  | .builtin .cap=>match c.args.toList,c.argTypes.toList with
   |[x],[t]=>(pw E t).bind λ| .l _=>((qU x).bind λ| .nl=>yx o (.i .i64 0)|_=> .fail)|_=> .fail
   |_,_=> .fail
  | .builtin .min=>match c.args.toList with
   |x::r=>(Bk x).bind λ(k,n)=>(vT aq r k n).bind λv=>yx o v
   |_=> .fail
  | .builtin .max=>match c.args.toList with
   |x::r=>(Bk x).bind λ(k,n)=>(vT ak r k n).bind λv=>yx o v
   |_=> .fail
  | .builtin .clear=>match c.args.toList with
   |[x]=>match c.argTypes.toList with
    |[t]=>(pw E t).bind λ| .l e=>((qU x).bind λx=>(P_ E e x).bind λw=> .ret ⟨ak,w++dw o (.je [])⟩)|_=> .fail
    |_=> .fail
   |_=> .fail
  | .builtin .append=>match c.args.toList,c.argTypes.toList with
   |[s,x],[t,u]=>(pw E u).bind λku=>(qU s).bind λs=>(qU x).bind λx=>match ku,x with
    | .i _, .i _ n=>(Tt E nm t s n).bind λ(b,v,w)=> .ret ⟨b,w++dw o (.v aq [v])⟩
    | .l _,x=>(EC E nm t s x).bind λ(b,v,w)=> .ret ⟨b,w++dw o (.v aq [v])⟩
    | .s,x=>(EC E nm t s x).bind λ(b,v,w)=> .ret ⟨b,w++dw o (.v aq [v])⟩
    |_,_=> .fail
   |_,_=> .fail
  | .value f=>(qU f).bind λ
   | .fn f iC=>match c.args.toList,iC with
    |[x,y],[]=>(Fh x).bind λ
     | .v aq [.inn n i j]=>bif E.mode f 0 then A7 E o f n i j y else KZ E nm o f c.args.toList c.argTypes.toList iC
     |_=>KZ E nm o f c.args.toList c.argTypes.toList iC
    |_,_=>KZ E nm o f c.args.toList c.argTypes.toList iC
   |_=> .fail
  |_=> .fail
 |_=> .fail
inductive Ex where
 |normal|exit (id:aG)|ret
structure Lg where
 rs:aA aG
 ws:aA aG
def Lj{R:Type}(a:AV)(f:AV->R):R:=
 match a with
 | .i k n=>f (.i k n)| .b x=>f (.b x)| .s x=>f (.s x)| .sh e xs=>f (.sh e xs)| .nl=>f .nl| .own n=>f (.own n)| .vw n lo hi=>f (.vw n lo hi)
 | .bp n j=>f (.bp n j)| .rp n i j=>f (.rp n i j)| .sp e xs i j=>f (.sp e xs i j)| .inn n i j=>f (.inn n i j)| .ip n i j i2 j2=>f (.ip n i j i2 j2)| .fn g iC=>f (.fn g iC)| .fp xs j=>f (.fp xs j)
def EN{R:Type}(a:aY)(f:aY->R):R:=match a with|true=>f ak|false=>f aq
def oJ{R:Type}:aA AV->(aA AV->R)->R
 |[],f=>f []|a::r,f=>Lj a λa=>oJ r λr=>f (a::r)
def EP{R:Type}:aA (aY×aA AV)->(aA (aY×aA AV)->R)->R
 |[],f=>f []|(g,xs)::r,f=>EN g λg=>oJ xs λxs=>EP r λr=>f ((g,xs)::r)
def EO{R:Type}(v:SV)(f:SV->R):R:=
 match v with
 | .v g xs=>EN g λg=>oJ xs λxs=>f (.v g xs)| .je l=>EP l λl=>f (.je l)| .un=>f .un
def Ji{R:Type}(o:Obj)(f:Obj->R):R:=
 match o with
 | .box xs=>oJ xs λxs=>f (.box xs)| .nC cs=>f (.nC cs)| .row e ex xs=>EN ex λex=>f (.row e ex xs)| .fI e xs=>f (.fI e xs)| .dead=>f .dead
def Jh{R:Type}(c:eE)(f:eE->R):R:=
 match c with
 | .v x=>EO x λx=>f (.v x)| .o x=>Ji x λx=>f (.o x)| .jH=>f .jH
def AY{R:Type}:aA (aG×eE)->(aA (aG×eE)->R)->R
 |[],f=>f []|(k,c)::r,f=>Jh c λc=>AY r λr=>f ((k,c)::r)
theorem Jg{R:Type}(a:AV)(f:AV->R):Lj a f=f a:=by cases a<;>rfl
theorem xQ{R:Type}(a:aY)(f:aY->R):EN a f=f a:=by cases a<;>rfl
theorem nb{R:Type}:∀(l:aA AV) (f:aA AV->R),oJ l f=f l
 |[],_=>rfl
 |a::r,f=>by simp only[oJ,Jg,nb r]
theorem Dj{R:Type}:∀(l:aA (aY×aA AV)) (f:aA (aY×aA AV)->R),EP l f=f l
 |[],_=>rfl
 |(g,xs)::r,f=>by simp only[EP,xQ,nb,Dj r]
theorem Jj{R:Type}(v:SV)(f:SV->R):EO v f=f v:=by cases v<;>simp only[EO,xQ,nb,Dj]
theorem MT{R:Type}(v:Obj)(f:Obj->R):Ji v f=f v:=by cases v<;>simp only[Ji,xQ,nb]
theorem MS{R:Type}(v:eE)(f:eE->R):Jh v f=f v:=by cases v<;>simp only[Jh,Jj,MT]
theorem Dk{R:Type}:∀(l:aA (aG×eE)) (f:aA (aG×eE)->R),AY l f=f l
 |[],_=>rfl
 |(k,c)::r,f=>by simp only[AY,MS,Dk r]
def ops{R:Type}(E:fF)(all:di e8)(nG:aG):aG->aA e8->St->aA Lg->(St->aA Lg->aC R)->aC R
 |_,[],σ,lg,K=>K σ lg
 |i,o::rest,σ,lg,K=>match o.guard with
  |none=>match (lF E ((nG+1)*1000000+i*1000) o).run σ []with
   |some (e,l)=>bif e.cond then AY e.ws (λws=>ops E all nG (i+1) rest (wr σ ws) (⟨l,ws.map (·.1)⟩::lg) K)else ao
   |none=>ao
  |some (g,want)=>match (all.getD g default).dst with
   |none=>ao
   |some d=>match σ (pS d)with
    | .v (.v aq [.b x])=>
     let perform:=λy=>match (lF E ((nG+1)*1000000+i*1000) o).run (o_ σ (pS d) (.v (.v aq [.b y]))) []with
      |some (e,l)=>bif e.cond then AY e.ws (λws=>ops E all nG (i+1) rest (wr (o_ σ (pS d) (.v (.v aq [.b y]))) ws) (⟨pS d::l,ws.map (·.1)⟩::lg) K)else ao
      |none=>ao
     let skip:=λy=>ops E all nG (i+1) rest (wr (o_ σ (pS d) (.v (.v aq [.b y]))) (dw o (.je []))) (⟨[pS d],(dw o (.je [])).map (·.1)⟩::lg) K
     bif x then(bif want then perform ak else skip ak)else(bif want then skip aq else perform aq)
    | .v (.je [])=>ops E all nG (i+1) rest (wr σ (dw o (.je []))) (⟨[pS d],(dw o (.je [])).map (·.1)⟩::lg) K
    |_=>ao
def ddA(acc:aA aG):aA aG->aA aG
 |[]=>acc|n::r=>bif lZ n acc then ddA acc r else ddA (n::acc) r
def mm{R:Type}:aA aG->(aA aG->R)->R
 |[],f=>f []|n::r,f=>mm r λr=>f (n::r)
def zM{R:Type}:aA (aA aG)->(aA (aA aG)->R)->R
 |[],f=>f []|n::r,f=>mm n λn=>zM r λr=>f (n::r)
theorem oj{R:Type}:∀(l:aA aG) (f:aA aG->R),mm l f=f l
 |[],_=>rfl
 |n::r,f=>by simp only[mm,oj r]
theorem AX{R:Type}:∀(l:aA (aA aG)) (f:aA (aA aG)->R),zM l f=f l
 |[],_=>rfl
 |n::r,f=>by simp only[zM,oj,AX r]
theorem EI:∀(l acc:aA aG) (x:aG),x∈ddA acc l->x∈acc\/x∈l
 |[],_,_,h=> .inl h
 |n::r,acc,x,h=>by
  unfold ddA at h;cases hb:lZ n acc with
  |true=>
   rw[hb]at h;rcases EI r acc x h with h|h
   ·exact .inl h
   ·exact .inr (cW _ h)
  |false=>
   rw[hb]at h;rcases EI r (n::acc) x h with h|h
   ·rcases cz.1 h with rfl|h
    ·exact .inr dy
    ·exact .inl h
   ·exact .inr (cW _ h)
def EB:aA (aA aG)->aA e8->aA (aA aG)
 |acc,[]=>acc
 |acc,o::r=>mm (ddA [] (o.after.toList.flatMap λe=>bif me .any e then e.on::acc.getD e.on []else [])) λx=>EB (acc++[x]) r
def HF:aG->aA e8->aY
 |_,[]=>ak
 |i,o::r=>(o.after.toList.all λe=> !Region.binds .any e||Nat.blt e.on i)&&HF (i+1) r
def AK(a b:Lg):aY:= !(qL a.ws b.ws&&qL a.ws b.rs&&qL b.ws a.rs)
def zF(an:aA aG)(j:aG)(a:Lg):aG->aA Lg->aY
 |_,[]=>ak
 |i,b::r=>(lZ i an|| !AK a b)&&zF an j a (i+1) r
def calm:aG->aA (aA aG)->aA Lg->aA Lg->aY
 |_,_,_,[]=>ak
 |j,an,done,a::r=>zF (an.getD j []) j a 0 done&&calm (j+1) an (done++[a]) r
def zL{R:Type}:aA Lg->(aA Lg->R)->R
 |[],f=>f []|a::r,f=>mm a.rs λrs=>mm a.ws λws=>zL r λr=>f (⟨rs,ws⟩::r)
theorem AW{R:Type}:∀(l:aA Lg) (f:aA Lg->R),zL l f=f l
 |[],_=>rfl
 |n::r,f=>by simp only[zL,oj,AW r]
def K3(an:aA (aA aG))(l:aA Lg):aY:=zM an λan=>zL l λl=>calm 0 an [] l
theorem P5(an:aA (aA aG))(l:aA Lg):K3 an l=calm 0 an [] l:=by simp only[K3,AX,AW]
def bJ:AV->aA aG
 | .own n=>[n]| .vw n _ _=>[n]| .bp n _=>[n]| .rp n _ _=>[n]| .inn n _ _=>[n]| .ip n _ _ _ _=>[n]|_=>[]
def cD:SV->aA aG
 | .v _ xs=>xs.flatMap bJ| .je l=>l.flatMap λ(_,xs)=>xs.flatMap bJ| .un=>[]
def Ul:aA aG->aA aG->aA aG
 |l,[]=>l
 |l,n::r=>mm (bif lZ n l then l else l++[n]) λl=>Ul l r
def slot(σ:St)(n:aG):SV:=match σ (pS n)with| .v x=>x|_=> .un
def afW(σ:St)(nm:aG):aA aG:=match σ (cX nm)with| .o (.box xs)=>xs.flatMap bJ|_=>[]
def idx(n:aG):aG->aA aG->aC aG
 |_,[]=>ao|i,m::r=>bif bA n m then aj i else idx n (i+1) r
def enc(f:aY)(k:aG):aG:=bif f then k*1000+999 else k
def u5(l:aA aG)(n:aG):aC aG:=bif fj 900000000 n then(bif lZ n l then aj n else ao)else(match idx n 0 l with|some k=>aj (enc (xT n) k)|none=>ao)
def pz(l:aA aG)(a:AV):AV:=
 match a with
 | .own n=>match u5 l n with|some k=> .own k|none=> .nl
 | .vw n lo hi=>match u5 l n with|some k=> .vw k lo hi|none=> .nl
 | .bp n j=>match u5 l n with|some k=> .bp k j|none=> .nl
 | .rp n i j=>match u5 l n with|some k=> .rp k i j|none=> .nl
 | .inn n i j=>match u5 l n with|some k=> .inn k i j|none=> .nl
 | .ip n i j i2 j2=>match u5 l n with|some k=> .ip k i j i2 j2|none=> .nl
 |a=>a
def xV(l:aA aG)(ns:aA aG):aY:=ns.all λn=>lZ n l
def DC(l:aA aG)(v:SV):SV:=
 bif xV l (cD v)then(match v with
 | .v agg xs=> .v agg (xs.map (pz l))| .je r=> .je (r.map λ(g,xs)=>(g,xs.map (pz l)))| .un=> .un)else .un
def Nz(l:aA aG)(o:eE):eE:=
 match o with
 | .o (.box xs)=>bif xV l (xs.flatMap bJ)then .o (.box (xs.map (pz l)))else .o .dead
 | .o x=> .o x
 |_=> .o .dead
def fO:aA (aG×eE)->St
 |[],_=> .jH
 |(k,c)::r,n=>bif bA n k then c else fO r n
def uW(σ:St)(l:aA aG):aA aG->aA (aG×eE)
 |[]=>[]|n::r=>match u5 l n with|some k=>(cX k,Nz l (σ (cX n)))::uW σ l r|none=>uW σ l r
def IW(keep:aA aG)(σ:St):aA aG:=
 mm (Ul [] (keep.flatMap λn=>cD (slot σ n))) λl0=>mm (Ul l0 (l0.flatMap (afW σ))) λl1=>Ul l1 (l1.flatMap (afW σ))
def IV(keep:aA aG)(σ:St)(l:aA aG):aA (aG×eE):=
 bif fj l.length 900 then keep.map (λn=>(pS n, .v (DC l (slot σ n))))++uW σ l l else []
def Vg(x:aG):aY:=fj 1000000000000000 x
def YM(x:aG):aG:=(x/1000000)%1000000000
def QZ(x:aG):aG:=(x/1000)%1000
def kTy(x:aG):aG:=x%1000
def kNm(x:aG):aG:=800000000+((x/1000)%1000000)*100
def yT{α:Type}(x:aG)(σ:St)(f:St->α):α:=
 match slot σ (YM x)with
 | .v aq [.bp nm 0]=>match σ (cX nm),σ (cX (kNm x))with
  | .o (.box xs), .jH=>match xs[QZ x]? with
   |some .nl=>oJ (xs.set (QZ x) (.own (kNm x))) λys=>f (o_ (o_ σ (cX nm) (.o (.box ys))) (cX (kNm x)) (.o (.row (kTy x) ak [])))
   |_=>f σ
  |_,_=>f σ
 |_=>f σ
def LH{α:Type}:aA aG->St->(St->α)->α
 |[],σ,f=>f σ
 |x::r,σ,f=>bif Vg x then yT x σ (λσ=>LH r σ f)else LH r σ f
def IX(keep:aA aG)(σ:St):aA (aG×eE):=LH keep σ λσ=>mm (keep.filter λx=> !Vg x) λkeep=>mm (IW keep σ) λl=>IV keep σ l
def canon(keep:aA aG)(σ:St):St:=fO (IX keep σ)
def fF.yR(E:fF)(n:aG):aA aG:=(E.keep n).filter λx=>bif Vg x then(match E.ty (kTy x)with|some _=>ak|none=>aq)else ak
def gm:Code->aG
 | .region id _ _=>id| .seq a _=>gm a| .block _ c=>gm c| .scope c=>gm c|_=>0
def Dt{R:Type}(g:St->aC R)(cn:St->St)(K:Ex->St->aC R):Ex->St->aC R
 | .normal,σ=>g (cn σ)
 |e,σ=>K e (cn σ)
def iter{R:Type}(f:St->(Ex->St->aC R)->aC R)(cn:St->St):aG->St->(Ex->St->aC R)->aC R
 |0,_,_=>ao
 |n+1,σ,K=>f σ (Dt (λs=>iter f cn n s K) cn K)
theorem Na{R:Type}(f:St->(Ex->St->aC R)->aC R)(cn:St->St)(n:aG)(σ:St)(K:Ex->St->aC R):iter f cn (n+1) σ K=f σ (Dt (λs=>iter f cn n s K) cn K):=rfl
abbrev It(R:Type):=aG->(St->(Ex->St->aC R)->aC R)->(St->St)->aA (aG×eE)->(Ex->St->aC R)->aC R
def aqZ{R:Type}(n:aG):It R:=λ_ f cn L K=>iter f cn n (fO L) K
def apO{R:Type}(f:St->(Ex->St->aC R)->aC R)(K:Ex->St->aC R):Ex->St->aC R
 | .normal,σ=>f σ K
 |e,σ=>K e σ
def al9{R:Type}(id:aG)(K:Ex->St->aC R):Ex->St->aC R
 | .exit j,σ=>bif bA j id then K .normal σ else K (.exit j) σ
 |e,σ=>K e σ
def se{R:Type}(E:fF)(it:It R):Code->St->(Ex->St->aC R)->aC R
 | .skip,σ,K=>K .normal σ
 | .region id os draw,σ,K=>ops E os id 0 os.toList σ [] λσ lg=>bif !draw||(HF 0 os.toList&&K3 (EB [] os.toList) lg.reverse)then K .normal σ else ao
 | .seq a b,σ,K=>se E it a σ (apO (se E it b) K)
 | .cond c a b,σ,K=>match c with
  | .tmp t=>match σ (pS t)with
   | .v (.v aq [.b x])=>bif x then(se E it a (o_ σ (pS t) (.v (.v aq [.b ak]))) K)else(se E it b (o_ σ (pS t) (.v (.v aq [.b aq]))) K)
   |_=>ao
  |_=>ao
 | .block id c,σ,K=>se E it c σ (al9 id K)
 | .loop c,σ,K=>it (gm c) (se E it c) (canon (E.yR (gm c))) (IX (E.yR (gm c)) σ) K
 | .exit id,σ,K=>K (.exit id) σ
 | .ret,σ,K=>K .ret σ
 |_,_,_=>ao
def jD:Code->aA Code
 | .seq a b=>jD a++jD b
 | .cond _ a b=>jD a++jD b
 | .block _ c=>jD c
 | .loop c=>c::jD c
 |_=>[]
def A_(nG:aG):Code->aC Code
 | .seq a b=>match A_ nG a with|some r=>aj r|none=>A_ nG b
 | .cond _ a b=>match A_ nG a with|some r=>aj r|none=>A_ nG b
 | .block _ c=>A_ nG c
 | .loop c=>bif bA (gm c) nG then aj c else A_ nG c
 |_=>ao
def ca(F:Func)(nG:aG):Code:=((F.body.bind (A_ nG)).getD .skip)
end Go.FG

namespace Go.FG
def dO(p j:aG):aG:=900000000+p*1000+j
def kQ(nm:aG)(a:AA):AV:=
 match a with
 | .i k n=> .i k n| .b x=> .b x| .s x=> .s x| .sh e xs=> .sh e xs| .nl=> .nl
 | .ow _ _ _=> .own nm| .kp _=> .nl| .fn f iC=> .fn f iC
def Dq(nm:aG)(a:AA):aA (aG×eE):=match a with| .ow e ex xs=>[(cX nm, .o (.row e ex xs))]|_=>[]
def gi(nm:aG):aA AA->aA AV
 |[]=>[]|a::r=>kQ nm a::gi (nm+1) r
def sq(nm:aG):aA AA->aA (aG×eE)
 |[]=>[]|a::r=>Dq nm a++sq (nm+1) r
def sr(p:aG)(a:eV):SV:=
 match a with
 | .v agg xs=> .v agg (gi (dO p 0) xs)
 | .pt _=> .v aq [.bp (dO p 900) 0]
 | .fb xs=> .v aq [.fp xs 0]
def uf(p:aG)(a:eV):aA (aG×eE):=
 match a with
 | .v _ xs=>sq (dO p 0) xs
 | .pt xs=>(cX (dO p 900), .o (.box (gi (dO p 0) xs)))::sq (dO p 0) xs
 | .fb _=>[]
def Jy:aG->aA eV->aA (aG×eE)
 |_,[]=>[]|p,a::r=>(pS p, .v (sr p a))::uf p a++Jy (p+1) r
def inj(args:aA eV):St:=fO (Jy 0 args)
def yP(E:fF)(e:aG):aY:=match E.ty e with|some _=>ak|none=>aq
def yO(E:fF)(om:Om)(σ:St)(k:Ck)(a:AV):aC (AA×aA aG×aA aG):=
 match a with
 | .i k n=>aj (.i k n,[],[])| .b x=>aj (.b x,[],[])| .s x=>aj (.s x,[],[])
 | .sh e xs=>match om with| .own _=>ao|_=>aj (.sh e xs,[],[])
 | .nl=>match om with
  | .own e=>bif yP E e then aj (.ow e ak [],[],[])else ao
  | .sh e=>aj (.sh e [],[],[])
  | .nat=>match k with| .l e=>bif yP E e then aj (.ow e ak [],[],[])else ao|_=>aj (.nl,[],[])
 | .own nm=>match σ (cX nm)with
  | .o (.row e ex xs)=>match om with| .sh _=>aj (.sh e xs,[],[nm])|_=>aj (.ow e ex xs,[nm],[])
  | .o (.fI e xs)=>match om with| .own _=>ao|_=>aj (.sh e xs,[],[])
  |_=>ao
 | .vw nm lo hi=>match σ (cX nm)with
  | .o (.row e ex xs)=>match om with| .sh _=>aj (.sh e (eT xs lo hi),[],[nm])|_=>aj (.ow e ex (eT xs lo hi),[nm],[])
  | .o (.fI e xs)=>match om with| .own _=>ao|_=>aj (.sh e (eT xs lo hi),[],[])
  |_=>ao
 |_=>ao
def sg(E:fF)(q:aG)(σ:St):aG->aA Ck->aA AV->aC (aA AA×aA aG×aA aG)
 |_,_,[]=>aj ([],[],[])
 |j,ks,a::r=>match yO E (E.om q j) σ (ks.headD .o) a,sg E q σ (j+1) ks.tail r with
  |some (x,l,m),aj (xs,ls,ms)=>aj (x::xs,l++ls,m++ms)
  |_,_=>ao
def Lf(E:fF)(q:aG)(σ:St)(ks:aA Ck)(v:SV):aC (eV×aA aG×aA aG):=
 match v with
 | .v aq [.bp nm 0]=>match σ (cX nm)with
  | .o (.box xs)=>match sg E q σ 0 [] xs with|some (l,ns,ms)=>aj (.pt l,nm::ns,ms)|none=>ao
  |_=>ao
 | .v agg xs=>match sg E q σ 0 ks xs with|some (l,ns,ms)=>aj (.v agg l,ns,ms)|none=>ao
 |_=>ao
def R8(E:fF)(q:aG)(σ:St)(r:ResultVar)(t:aG):aC (eV×aA aG×aA aG):=
 match E.ty t with
 |none=>ao
 |some ti=>match r with
  | .tmp s=>Lf E q σ ti.ks (slot σ s)
  | .cell a t'=>match E.ty t',slot σ a with
   |some S_, .v aq [.bp nm 0]=>match σ (cX nm)with| .o (.box xs)=>bif bA xs.length S_.ks.length then Lf E q σ ti.ks (.v S_.agg xs)else ao|_=>ao
   |_,_=>ao
def Bw(E:fF)(σ:St):aG->aA ResultVar->aA aG->aC (aA eV×aA aG×aA aG)
 |_,[],_=>aj ([],[],[])
 |q,r::rs,ts=>match R8 E q σ r (ts.headD 0),Bw E σ (q+1) rs ts.tail with
  |some (a,l,m),aj (as,ls,ms)=>aj (a::as,l++ls,m++ms)
  |_,_=>ao
def HS(a b:aY):aY:=bif a then b else !b
def mN(σ:St)(tk:aA aG)(nm:aG)(a:AA):AA×aA aG:=
 match a with
 | .ow e ex _=>bif lZ nm tk then(.nl,[])else(match σ (cX nm)with| .o (.row e' s6 xs)=>bif bA e e'&&HS ex s6 then(.kp xs,[nm])else(.nl,[])|_=>(.nl,[]))
 |_=>(.nl,[])
def pr(σ:St)(tk:aA aG)(nm:aG):aA AA->aA AA×aA aG
 |[]=>([],[])|a::r=>((mN σ tk nm a).1::(pr σ tk (nm+1) r).1,(mN σ tk nm a).2++(pr σ tk (nm+1) r).2)
def XR(E:fF)(om:Om)(σ:St)(nm:aG)(b:AA)(a:AV):aC (AA×aA aG×aA aG):=
 match om,b,a with
 | .nat, .ow e ex _, .own n=>bif bA n nm then(match σ (cX n)with| .o (.row e' s6 xs)=>bif bA e e'&&HS ex s6 then aj (.kp xs,[n],[])else ao|_=>ao)else yO E om σ .o a
 |_,_,a=>yO E om σ .o a
def EG(E:fF)(q:aG)(σ:St):aG->aA AA->aA AV->aC (aA AA×aA aG×aA aG)
 |_,_,[]=>aj ([],[],[])
 |j,bs,a::r=>match XR E (E.om q j) σ (dO q j) (bs.headD .nl) a,EG E q σ (j+1) bs.tail r with
  |some (x,l,m),aj (xs,ls,ms)=>aj (x::xs,l++ls,m++ms)
  |_,_=>ao
def Qs:aA AA->aY
 |[]=>aq| .ow _ _ _::_=>ak|_::r=>Qs r
def Bq(E:fF)(σ:St)(tk:aA aG):aG->aA eV->aC (aA (aA AA)×aA aG×aA aG)
 |_,[]=>aj ([],[],[])
 |p,a::r=>match Bq E σ tk (p+1) r with
  |none=>ao
  |some (l,ns,ms)=>match a with
   | .v _ xs=>bif Qs xs then aj ((pr σ tk (dO p 0) xs).1::l,(pr σ tk (dO p 0) xs).2++ns,ms)else aj ([]::l,ns,ms)
   | .pt xs=>match σ (cX (dO p 900))with
    | .o (.box vs)=>match EG E p σ 0 xs vs with|some (as,ns',ms')=>aj (as::l,dO p 900::(ns'++ns),ms'++ms)|none=>ao
    |_=>ao
   | .fb _=>aj ([]::l,ns,ms)
def s5:aA (aA AA)->aA (aA AA)
 |[]=>[]
 |x::r=>match x,s5 r with|[],[]=>[]|x,r=>x::r
def fin(E:fF)(F:Func)(args:aA eV)(e:Ex)(σ:St):aC dP:=
 match e with
 | .exit _=>ao
 |_=>match Bw E σ 500 F.results.toList F.resultTypes.toList with
  |some (rs,tk,fz)=>match Bq E σ (tk++fz) 0 args with
   |some (outs,ns,ms)=>bif sC (tk++ns)&&qL (tk++ns) (fz++ms)&&fj args.length 500&&(args.all λa=>fj (mL a) 100)&&(rs.all λa=>fj (mL a) 100)&&(outs.all λa=>fj a.length 100)then aj ⟨rs,s5 outs⟩else ao
   |none=>ao
  |none=>ao
def body(E:fF)(it:It dP)(F:Func)(args:aA eV):aC dP:=
 match F.body with
 |some c=>se E it c (inj args) (fin E F args)
 |none=>ao
end Go.FG

namespace Go.FG
structure Pl where
 nil:aY
 blk:aG
 off:aG
 cap:aG
 n:aG
 sz:aG
def lh(p:Pl):bg:=if p.nil=ak then .slice ao 0 0 else .slice (aj ⟨p.blk,p.off,ao⟩) p.n p.cap
def nq(w:bF)(b:aG)(vals:di bg):Prop:=
 ∃t fr,w.heap[b]? =aj (.cells vals t fr)/\∀o,o<=vals.size->(decide (fr.1<=o)&&decide (o<fr.2))=aq
def NJ:CV->bg
 | .i k n=> .int k n| .b x=> .bool x| .s x=> .string x| .l _ _=> .nilIface
def F2(x:au):Prop:=x.size<=4611686018427387904
def okC:CV->Prop
 | .s x=>F2 x|_=>True
def Sc(u:bg)(x:CV):Prop:=u=NJ x/\okC x
structure eO where
 P:aG->Pl
 G:aG->aG->aG->Pl
 K:aG->Prop
abbrev ad(b o:aG):Addr:=⟨b,o,ao⟩
inductive cZ (E:Tab) (w:bF) (K:aG->Prop):bg->CV->Prop
 |i (k n):cZ E w K (.int k n) (.i k n)
 |b (x):cZ E w K (.bool x) (.b x)
 |s (x) (h:F2 x):cZ E w K (.string x) (.s x)
 |nl (e A c):cZ E w K (.slice A 0 c) (.l e [])
 |l (e xs b o c ti) (U:aG->aG->bg) (ht:E.ty e=aj ti) (hc:xs.length<=c) (hm:c<=maxLen) (hK:K b) (hs:∀y∈xs,y.map CV.kd=ti.ks)
  (hcell:∀i j y x,xs[i]? =aj y->y[j]? =aj x->w.cell? (ad b (o+i*ti.ks.length+j))=aj (U i j))
  (gQ:∀i j y x,xs[i]? =aj y->y[j]? =aj x->cZ E w K (U i j) x):cZ E w K (.slice (aj (ad b o)) xs.length c) (.l e xs)
theorem nq.cell{w:bF}{b:aG}{vals:di bg}(h:nq w b vals)(o:aG):w.cell? (ad b o)=vals[o]? :=by obtain⟨t,fr,h,_⟩:=h;simp[World.cell?,h]
theorem nq.lt{w:bF}{b:aG}{vals:di bg}(h:nq w b vals):b<w.heap.size:=by obtain⟨t,fr,h,_⟩:=h;exact(dQ.1 h).1
theorem nq.free{w:bF}{b:aG}{vals:di bg}(h:nq w b vals){o:aG}(ho:o<vals.size):w.frozen? (ad b o)=false:=by obtain⟨t,fr,h,hf⟩:=h;have:=hf o (Nat.le_of_lt ho);simpa [Xm,h]using this
theorem nq.frame{w w':bF}{b:aG}{vals:di bg}(h:nq w b vals)(e:w'.heap[b]? =w.heap[b]?):nq w' b vals:=by obtain⟨t,fr,h,hf⟩:=h;exact⟨t,fr,e.trans h,hf⟩
theorem cZ.frame{E:Tab}{w w':bF}{K K':aG->Prop}{v:bg}{x:CV}(h:cZ E w K v x)(hw:∀b,K b->w'.heap[b]? =w.heap[b]?)(hK:∀b,K b->K' b):cZ E w' K' v x:=by
 induction h with
 |i=>exact .i _ _
 |b=>exact .b _
 |s x h=>exact .s _ h
 |nl=>exact .nl _ _ _
 |l e xs b o c ti U ht hc hm hKb hs hcell gQ ih=>exact .l e xs b o c ti U ht hc hm (hK b hKb) hs (λi j y x h1 h2=>(tE (a:=ad b _) (hw b hKb)).trans (hcell i j y x h1 h2)) (λi j y x h1 h2=>ih i j y x h1 h2)
structure iV (w:bF) (p:Pl) (xs:aW) (R:aG->aG->bg->CV->Prop):Prop where
 n:p.n=xs.length
 nil:p.nil=ak->xs=[]/\p.cap=0
 mem:p.nil=aq->∃vals,nq w p.blk vals/\p.n<=p.cap/\p.cap<=maxLen/\p.off+p.cap*p.sz<=vals.size/\
  ∀(i:aG) (y:aA CV) (j:aG) (x:CV),xs[i]? =aj y->y[j]? =aj x->∃u:bg,vals[p.off+i*p.sz+j]? =aj u/\R i j u x
def XC(E:Tab)(w:bF)(G:aG->aG->Pl)(i j:aG)(u:bg):CV->Prop
 | .l e ys=>u=lh (G i j)/\∃ti,E.ty e=aj ti/\plain ti.ks=ak/\(G i j).sz=ti.ks.length/\(∀y∈ys,y.map CV.kd=ti.ks)/\iV w (G i j) ys (λ_ _ u x=>Sc u x)
 |x=>Sc u x
def s8:CV->aY| .l _ _=>ak|_=>aq
def fZ(xs:aW)(i j:aG):Prop:=∃y x,xs[i]? =aj y/\y[j]? =aj x/\s8 x=ak
structure DV (p:Pl) (G:aG->aG->Pl) (xs:aW):Prop where
 out:∀i j,fZ xs i j->(G i j).nil=aq->p.nil=aq->(G i j).blk≠p.blk
 one:∀i j i' j',fZ xs i j->fZ xs i' j'->(G i j).nil=aq->(G i' j').nil=aq->(G i j).blk=(G i' j').blk->i=i'/\j=j'
structure KF (E:Tab) (w:bF) (c:eO) (nm e:aG) (ex:aY) (xs:aW):Prop where
 sh:∃ti,E.ty e=aj ti/\(c.P nm).sz=ti.ks.length/\∀y∈xs,y.map CV.kd=ti.ks
 at_:iV w (c.P nm) xs (λi j u x=>if ex=ak then XC E w (c.G nm) i j u x else cZ E w c.K u x)
 inn:ex=ak->DV (c.P nm) (c.G nm) xs
def FB(E:Tab)(w:bF)(K:aG->Prop)(b:aG)(cs:aA CV):Prop:=
 K b/\∀(q:aG) (x:CV),cs[q]? =aj x->∃u:bg,w.cell? (ad b q)=aj u/\cZ E w K u x
def vA(p:Pl)(lo hi:aG)(v:bg):Prop:=
 lo<=hi/\hi<=p.n/\(p.nil=ak->v= .slice ao 0 0)/\
 (p.nil=aq->(lo<p.cap/\v= .slice (aj (ad p.blk (p.off+lo*p.sz))) (hi-lo) (p.cap-lo))\/(lo=p.cap/\∃o,o<=p.off+p.cap*p.sz/\v= .slice (aj (ad p.blk o)) 0 0))
def ej(E:Tab)(w:bF)(c:eO):AV->bg->Prop
 | .i k n,v=>v= .int k n
 | .b x,v=>v= .bool x
 | .s x,v=>v= .string x/\F2 x
 | .sh e xs,v=>cZ E w c.K v (.l e xs)
 | .nl,v=>v= .slice ao 0 0
 | .own nm,v=>v=lh (c.P nm)
 | .vw nm lo hi,v=>vA (c.P nm) lo hi v
 | .bp nm j,v=>v= .pointer (aj (ad (c.P nm).blk j))
 | .rp nm i j,v=>i<(c.P nm).n/\v= .pointer (aj (ad (c.P nm).blk ((c.P nm).off+i*(c.P nm).sz+j)))
 | .sp e xs i j,v=>∃b o cp ti,cZ E w c.K (.slice (aj (ad b o)) xs.length cp) (.l e xs)/\i<xs.length/\E.ty e=aj ti/\v= .pointer (aj (ad b (o+i*ti.ks.length+j)))
 | .inn nm i j,v=>(i<(c.P nm).n/\v=lh (c.G nm i j))/\xT nm=aq
 | .ip nm i j i2 j2,v=>(i<(c.P nm).n/\i2<(c.G nm i j).n/\v= .pointer (aj (ad (c.G nm i j).blk ((c.G nm i j).off+i2*(c.G nm i j).sz+j2))))/\xT nm=aq
 | .fn f iC,v=>∃ps:di bg,v= .func (.func f) #[] ps/\ps.size=iC.length/\∀(q:aG) (cs:aA CV),iC[q]? =aj cs->∃b:aG,ps[q]? =aj (.pointer (aj (ad b 0)))/\FB E w c.K b cs
 | .fp cs j,v=>∃b,v= .pointer (aj (ad b j))/\FB E w c.K b cs
def pM(E:Tab)(w:bF)(c:eO)(agg:aY)(xs:aA AV)(v:bg):Prop:=
 match agg,xs with
 |false,[a]=>ej E w c a v
 |true,xs=>∃vals:di bg,v= .agg vals/\vals.size=xs.length/\∀(j:aG) (a:AV),xs[j]? =aj a->∃u:bg,vals[j]? =aj u/\ej E w c a u
 |_,_=>False
def iW(E:Tab)(w:bF)(c:eO):SV->bg->Prop
 | .v agg xs,v=>pM E w c agg xs v
 | .je l,v=>∃vs:di bg,v= .tuple vs/\vs.size=l.length/\∀(j:aG) (agg:aY) (xs:aA AV),l[j]? =aj (agg,xs)->∃u:bg,vs[j]? =aj u/\pM E w c agg xs u
 | .un,_=>True
def pf(E:Tab)(w:bF)(c:eO)(nm:aG):Obj->Prop
 | .box xs=>∃vals,nq w (c.P nm).blk vals/\vals.size=xs.length/\∀(j:aG) (a:AV),xs[j]? =aj a->∃u:bg,vals[j]? =aj u/\ej E w c a u
 | .nC cs=>FB E w c.K (c.P nm).blk cs
 | .row e ex xs=>KF E w c nm e ex xs
 | .fI e xs=>cZ E w c.K (lh (c.P nm)) (.l e xs)/\(c.P nm).n=xs.length/\∃ti,E.ty e=aj ti/\(c.P nm).sz=ti.ks.length
 | .dead=>True
def fu(c:eO)(nm:aG):Obj->aG->Prop
 | .box _,b=>b=(c.P nm).blk
 | .row _ ex xs,b=>((c.P nm).nil=aq/\b=(c.P nm).blk)\/(ex=ak/\∃i j,fZ xs i j/\(c.G nm i j).nil=aq/\b=(c.G nm i j).blk)
 |_,_=>False
def vj(σ:St)(c:eO)(b:aG):Prop:=∃nm o,σ (cX nm)= .o o/\fu c nm o b
def iU(σ:St)(a:AV):Prop:=∀n∈bJ a,σ (cX n)≠ .jH
def mf(σ:St)(v:SV):Prop:=∀n∈cD v,σ (cX n)≠ .jH
structure Ok (E:Tab) (σ:St) (w:bF) (c:eO):Prop where
 obj:∀nm o,σ (cX nm)= .o o->pf E w c nm o
 sep:∀nm o vU o' b,σ (cX nm)= .o o->σ (cX vU)= .o o'->fu c nm o b->fu c vU o' b->nm=vU
 kk:∀nm o b,σ (cX nm)= .o o->fu c nm o b->¬c.K b
 lt:∀b,c.K b->b<w.heap.size
 kn:∀nm xs,σ (cX nm)= .o (.box xs)->∀a∈xs,iU σ a
structure e_ (E:Tab) (σ:St) (a:Act) (w:bF) (c:eO):Prop where
 ok:∀n,iW E w c (slot σ n) (a.eval (.tmp n))
 kn:∀n,mf σ (slot σ n)
 df:a.defers=[]
def jj(σ:St)(c c':eO):Prop:=∀nm,(σ (cX nm)≠ .jH\/900000000<=nm)->c'.P nm=c.P nm/\c'.G nm=c.G nm
def qx(σ:St)(c c':eO):Prop:=∀nm,(σ (cX nm)≠ .jH\/900000000<=nm)->c'.P nm=c.P nm/\(xT nm=aq->c'.G nm=c.G nm)
theorem jj.w{σ:St}{c c':eO}(h:jj σ c c'):qx σ c c':=λnm hn=>⟨(h nm hn).1,λ_=>(h nm hn).2⟩
structure nQ (σ:St) (c:eO) (w:bF) (σ':St) (c':eO) (w':bF):Prop where
 os:w'.os=w.os
 tape:w'.tape=w.tape
 output:w'.output=w.output
 size:w.heap.size<=w'.heap.size
 K:∀b,c.K b->c'.K b
 same:∀b,b<w.heap.size->¬vj σ c b->w'.heap[b]? =w.heap[b]?
 own:∀b,vj σ' c' b->vj σ c b\/w.heap.size<=b
 kn:∀b,c'.K b->c.K b\/vj σ c b\/w.heap.size<=b
theorem vj.lt{E:Tab}{σ:St}{w:bF}{c:eO}(h:Ok E σ w c){b:aG}(ho:vj σ c b):b<w.heap.size:=by
 obtain⟨nm,o,h1,h2⟩:=ho;have mn:=h.obj nm o h1;cases o with
 |box xs=>obtain⟨vals,hb,_⟩:=mn;cases h2;exact hb.lt
 |nC=>exact h2.elim
 |fI=>exact h2.elim
 |dead=>exact h2.elim
 |row e ex xs=>
  rcases h2 with ⟨hn,rfl⟩|⟨hex,i,j,⟨y,x,hy,hx,hl⟩,hn,rfl⟩
  ·obtain⟨vals,hb,_⟩:=mn.at_.mem hn;exact hb.lt
  ·by_cases hp:(c.P nm).nil=ak
   ·have:=(mn.at_.nil hp).1;subst this;simp at hy
   ·obtain⟨vals,hb,_,_,_,hc⟩:=mn.at_.mem (by simpa using hp);obtain⟨u,_,hu⟩:=hc i y j x hy hx;rw[bC hex]at hu;cases x with
    |l e2 ys=>obtain⟨_,ti,_,_,_,_,hr⟩:=hu;obtain⟨v2,Dn,_⟩:=hr.mem hn;exact Dn.lt
    |i=>simp[s8]at hl
    |b=>simp[s8]at hl
    |s=>simp[s8]at hl
theorem Ok.HB{E:Tab}{σ:St}{w:bF}{c:eO}(h:Ok E σ w c){b:aG}(ho:vj σ c b):¬c.K b:=by obtain⟨nm,o,h1,h2⟩:=ho;exact h.kk nm o b h1 h2
theorem nQ.refl(σ:St)(c:eO)(w:bF):nQ σ c w σ c w:=
 ⟨rfl,rfl,rfl,cu _,λ_ h=>h,λ_ _ _=>rfl,λ_ h=> .inl h,λ_ h=> .inl h⟩
theorem nQ.trans{σ σ1 σ2:St}{c c1 c2:eO}{w w1 w2:bF}(h:nQ σ c w σ1 c1 w1)(k:nQ σ1 c1 w1 σ2 c2 w2):nQ σ c w σ2 c2 w2 where
 os:=k.os.trans h.os
 tape:=k.tape.trans h.tape
 output:=k.output.trans h.output
 size:=db h.size k.size
 K b hb:=k.K b (h.K b hb)
 same b hb hn:=(k.same b (jd hb h.size) (λho=>(h.own b ho).elim hn (λh=>by omega))).trans (h.same b hb hn)
 own b hb:=(k.own b hb).elim (h.own b) (λh1=> .inr (db h.size h1))
 kn b hb:=by
  rcases k.kn b hb with h1|h1|h1
  ·exact h.kn b h1
  ·exact .inr (h.own b h1)
  ·exact .inr (.inr (db h.size h1))
theorem nQ.Xo{E:Tab}{σ σ':St}{c c':eO}{w w':bF}(b8:Ok E σ w c)(h:nQ σ c w σ' c' w'):∀b,c.K b->w'.heap[b]? =w.heap[b]? :=
 λb hb=>h.same b (b8.lt b hb) (λho=>b8.HB ho hb)
theorem FB.frame{E:Tab}{w w':bF}{K K':aG->Prop}{b:aG}{cs:aA CV}(h:FB E w K b cs)(hw:∀b,K b->w'.heap[b]? =w.heap[b]?)(hK:∀b,K b->K' b):FB E w' K' b cs:=
 ⟨hK b h.1,λq x hq=>by
  obtain⟨u,hu,hh⟩:=h.2 q x hq;exact⟨u,(tE (a:=ad b q) (hw b h.1)).trans hu,hh.frame hw hK⟩⟩
theorem ej.oK{E:Tab}{w w':bF}{c c':eO}{a:AV}{v:bg}(h:ej E w c a v)(hw:∀b,c.K b->w'.heap[b]? =w.heap[b]?)(hK:∀b,c.K b->c'.K b)
  (hP:∀n∈bJ a,c'.P n=c.P n/\(xT n=aq->c'.G n=c.G n)):ej E w' c' a v:=by
 cases a with
 |i=>exact h
 |b=>exact h
 |s=>exact h
 |nl=>exact h
 |sh e xs=>exact cZ.frame h hw hK
 |own n=>have:=hP n (by simp[bJ]);simp only[ej,this.1]at h⊢;exact h
 |vw n lo hi=>have:=hP n (by simp[bJ]);simp only[ej,this.1]at h⊢;exact h
 |bp n j=>have:=hP n (by simp[bJ]);simp only[ej,this.1]at h⊢;exact h
 |rp n i j=>have:=hP n (by simp[bJ]);simp only[ej,this.1]at h⊢;exact h
 |inn n i j=>have h0:=hP n (by simp[bJ]);have this:=h0.2 h.2;simp only[ej,h0.1,this]at h⊢;exact h
 |ip n i j i2 j2=>have h0:=hP n (by simp[bJ]);have this:=h0.2 h.2;simp only[ej,h0.1,this]at h⊢;exact h
 |sp e xs i j=>obtain⟨b,o,cp,ti,h1,h2,h3,h4⟩:=h;exact⟨b,o,cp,ti,h1.frame hw hK,h2,h3,h4⟩
 |fn f iC=>obtain⟨ps,h1,h2,h3⟩:=h;exact⟨ps,h1,h2,λq cs hq=>by obtain⟨b,hb,hf⟩:=h3 q cs hq;exact⟨b,hb,hf.frame hw hK⟩⟩
 |fp cs j=>obtain⟨b,h1,h2⟩:=h;exact⟨b,h1,h2.frame hw hK⟩
theorem pM.oK{E:Tab}{w w':bF}{c c':eO}{agg:aY}{xs:aA AV}{v:bg}(h:pM E w c agg xs v)(hw:∀b,c.K b->w'.heap[b]? =w.heap[b]?)(hK:∀b,c.K b->c'.K b)
  (hP:∀n∈xs.flatMap bJ,c'.P n=c.P n/\(xT n=aq->c'.G n=c.G n)):pM E w' c' agg xs v:=by
 unfold pM at h⊢;split at h
 ·rename_i a;exact ej.oK h hw hK (λn hn=>hP n (by simpa using hn))
 ·obtain⟨vals,h1,h2,h3⟩:=h;refine⟨vals,h1,h2,λj a hj=> ?_⟩
  obtain⟨u,hu,hv⟩:=h3 j a hj;exact⟨u,hu,hv.oK hw hK (λn hn=>hP n (bG.2 ⟨a,aQ hj,hn⟩))⟩
 ·exact h.elim
theorem iW.oK{E:Tab}{w w':bF}{c c':eO}{s:SV}{v:bg}(h:iW E w c s v)(hw:∀b,c.K b->w'.heap[b]? =w.heap[b]?)(hK:∀b,c.K b->c'.K b)
  (hP:∀n∈cD s,c'.P n=c.P n/\(xT n=aq->c'.G n=c.G n)):iW E w' c' s v:=by
 cases s with
 |un=>trivial
 |v agg xs=>exact pM.oK h hw hK hP
 |je l=>
  obtain⟨vs,h1,h2,h3⟩:=h;refine⟨vs,h1,h2,λj agg xs hj=> ?_⟩
  obtain⟨u,hu,hv⟩:=h3 j agg xs hj;exact⟨u,hu,hv.oK hw hK (λn hn=>hP n (bG.2 ⟨(agg,xs),aQ hj,hn⟩))⟩
theorem ej.frame{E:Tab}{w w':bF}{c c':eO}{a:AV}{v:bg}(h:ej E w c a v)(hw:∀b,c.K b->w'.heap[b]? =w.heap[b]?)(hK:∀b,c.K b->c'.K b)
  (hP:∀n∈bJ a,c'.P n=c.P n/\c'.G n=c.G n):ej E w' c' a v:=h.oK hw hK (λn hn=>⟨(hP n hn).1,λ_=>(hP n hn).2⟩)
theorem pM.frame{E:Tab}{w w':bF}{c c':eO}{agg:aY}{xs:aA AV}{v:bg}(h:pM E w c agg xs v)(hw:∀b,c.K b->w'.heap[b]? =w.heap[b]?)(hK:∀b,c.K b->c'.K b)
  (hP:∀n∈xs.flatMap bJ,c'.P n=c.P n/\c'.G n=c.G n):pM E w' c' agg xs v:=h.oK hw hK (λn hn=>⟨(hP n hn).1,λ_=>(hP n hn).2⟩)
theorem iW.frame{E:Tab}{w w':bF}{c c':eO}{s:SV}{v:bg}(h:iW E w c s v)(hw:∀b,c.K b->w'.heap[b]? =w.heap[b]?)(hK:∀b,c.K b->c'.K b)
  (hP:∀n∈cD s,c'.P n=c.P n/\c'.G n=c.G n):iW E w' c' s v:=h.oK hw hK (λn hn=>⟨(hP n hn).1,λ_=>(hP n hn).2⟩)
theorem iV.frame{w w':bF}{p:Pl}{xs:aW}{R R':aG->aG->bg->CV->Prop}(h:iV w p xs R)(hw:p.nil=aq->w'.heap[p.blk]? =w.heap[p.blk]?)
  (hR:∀i j y x u,xs[i]? =aj y->y[j]? =aj x->R i j u x->R' i j u x):iV w' p xs R' where
 n:=h.n
 nil:=h.nil
 mem hn:=by
  obtain⟨vals,h1,h2,h3,h4,h5⟩:=h.mem hn;refine⟨vals,h1.frame (hw hn),h2,h3,h4,λi y j x hi hj=> ?_⟩
  obtain⟨u,hu,hr⟩:=h5 i y j x hi hj;exact⟨u,hu,hR i j y x u hi hj hr⟩
theorem XC.frame{E:Tab}{w w':bF}{G:aG->aG->Pl}{i j:aG}{u:bg}{x:CV}(h:XC E w G i j u x)(hw:s8 x=ak->(G i j).nil=aq->w'.heap[(G i j).blk]? =w.heap[(G i j).blk]?):XC E w' G i j u x:=by
 cases x with
 |l e ys=>obtain⟨h1,ti,h2,h3,h4,h5,h6⟩:=h;exact⟨h1,ti,h2,h3,h4,h5,h6.frame (hw rfl) (λ_ _ _ _ _ _ _ h=>h)⟩
 |i=>exact h
 |b=>exact h
 |s=>exact h
theorem pf.frame{E:Tab}{w w':bF}{c c':eO}{nm:aG}{o:Obj}(h:pf E w c nm o)(hw:∀b,c.K b->w'.heap[b]? =w.heap[b]?)(hK:∀b,c.K b->c'.K b)
  (hf:∀b,fu c nm o b->w'.heap[b]? =w.heap[b]?) (hP:c'.P nm=c.P nm/\c'.G nm=c.G nm)
  (hPs:∀xs,o= .box xs->∀a∈xs,∀n∈bJ a,c'.P n=c.P n/\(xT n=aq->c'.G n=c.G n)):pf E w' c' nm o:=by
 cases o with
 |dead=>trivial
 |box xs=>
  obtain⟨vals,h1,h2,h3⟩:=h;refine⟨vals, ?_,h2,λj a hj=> ?_⟩
  ·rw[hP.1];exact h1.frame (hf _ rfl)
  ·obtain⟨u,hu,hv⟩:=h3 j a hj;exact⟨u,hu,hv.oK hw hK (hPs xs rfl a (aQ hj))⟩
 |nC cs=>show FB E w' c'.K (c'.P nm).blk cs;rw[hP.1];exact FB.frame h hw hK
 |fI e xs=>
  obtain⟨h1,h2,h3⟩:=h;refine⟨?_, ?_, ?_⟩
  ·rw[hP.1];exact h1.frame hw hK
  ·rw[hP.1];exact h2
  ·rw[hP.1];exact h3
 |row e ex xs=>
  obtain⟨h1,h2,h3⟩:=h;refine⟨by rw[hP.1];exact h1, ?_,by rw[hP.1,hP.2];exact h3⟩
  rw[hP.1,hP.2];refine h2.frame (λhn=>hf _ (.inl ⟨hn,rfl⟩)) (λi j y x u hi hj hr=> ?_);by_cases hx:ex=ak
  ·rw[bC hx]at hr⊢;exact hr.frame (λhl hn=>hf _ (.inr ⟨hx,i,j,⟨y,x,hi,hj,hl⟩,hn,rfl⟩))
  ·rw[bM hx]at hr⊢;exact hr.frame hw hK
end Go.FG

namespace Go.FG
theorem sN(s:St)(k:aG)(c:eE):o_ s k c k=c:=by simp[o_]
theorem yw(s:St){k n:aG}(c:eE)(h:n≠k):o_ s k c n=s n:=by
 have:bA n k=false:=by
  cases hb:bA n k with
  |false=>rfl
  |true=>exact cq (aX hb) h
 simp[o_,this]
theorem qY(n m:aG):pS n≠cX m:=by unfold pS cX;omega
theorem lL(n m:aG):cX n≠pS m:=by unfold pS cX;omega
theorem Fv{n m:aG}(h:pS n=pS m):n=m:=by unfold pS at h;omega
theorem jE{n m:aG}(h:cX n=cX m):n=m:=by unfold cX at h;omega
theorem H4(s:St)(d:aG)(c:eE)(m:aG):o_ s (pS d) c (cX m)=s (cX m):=yw s c (lL m d)
theorem pB(s:St)(n:aG)(c:eE)(m:aG):o_ s (cX n) c (cX m)=if m=n then c else s (cX m):=by
 by_cases h:m=n
 ·subst h;simp[sN]
 ·rw[bM h];exact yw s c (λe=>h (jE e))
theorem i9(s:St)(n:aG)(c:eE)(m:aG):slot (o_ s (cX n) c) m=slot s m:=by unfold slot;rw[yw s c (qY m n)]
theorem wi(s:St)(d:aG)(v:SV)(m:aG):slot (o_ s (pS d) (.v v)) m=if m=d then v else slot s m:=by
 by_cases h:m=d
 ·subst h;simp[slot,sN]
 ·rw[bM h];unfold slot;rw[yw s _ (λe=>h (Fv e))]
theorem NP(s:St)(l r:aA (aG×eE)):wr s (l++r)=wr (wr s l) r:=by
 induction l generalizing s with
 |nil=>rfl
 |cons a l ih=>obtain⟨k,c⟩:=a;exact ih _
def Rd.val{α:Type}(m:Rd α)(σ:St):aC α:=(m.run σ []).map (·.1)
theorem kO{α:Type}(m:Rd α)(σ:St):∀l,(m.run σ l).map (·.1)=m.val σ:=by
 induction m with
 |ret a=>intro l;rfl
 |fail=>intro l;rfl
 |get k f ih=>intro l;simp only[Rd.run,Rd.val];rw[ih,ih]
theorem Rd.Kf{α:Type}{m:Rd α}{σ:St}{l l':aA aG}{a:α}(h:m.run σ l=aj (a,l')):m.val σ=aj a:=by rw[<-kO m σ l,h];rfl
@[simp] theorem Rd.ajg {α:Type} (a:α) (σ:St):(Rd.ret a).val σ=some a:=rfl
@[simp] theorem Rd.ah0 {α:Type} (σ:St):(Rd.fail:Rd α).val σ=none:=rfl
@[simp] theorem Rd.z5 {α:Type} (k:Nat) (f:eE->Rd α) (σ:St):(Rd.get k f).val σ=(f (σ k)).val σ:=by
 simp only[Rd.val,Rd.run];exact(kO (f (σ k)) σ [k])
@[simp] theorem Rd.Tc {α β:Type} (m:Rd α) (f:α->Rd β) (σ:St):(m.bind f).val σ=(m.val σ).bind λa=>(f a).val σ:=by
 induction m with
 |ret a=>rfl
 |fail=>rfl
 |get k g ih=>simp only[Rd.bind,Rd.z5];exact ih _
theorem Rd.bind_some{α β:Type}{m:Rd α}{f:α->Rd β}{σ:St}{b:β}(h:(m.bind f).val σ=aj b):∃a,m.val σ=aj a/\(f a).val σ=aj b:=by rw[Rd.Tc,Option.bind_eq_some_iff]at h;exact h
theorem cE{α:Type}{b:aY}{m:Rd α}{σ:St}{a:α}(h:(bif b then m else Rd.fail).val σ=aj a):b=ak/\m.val σ=aj a:=by
 cases b with
 |true=>exact⟨rfl,h⟩
 |false=>simp at h
def jJ(Ch:aG->Prop)(σ:St)(c:eO)(b:aG):Prop:=∃nm o,Ch nm/\σ (cX nm)= .o o/\fu c nm o b
theorem jJ.own{Ch:aG->Prop}{σ:St}{c:eO}{b:aG}(h:jJ Ch σ c b):vj σ c b:=by obtain⟨nm,o,_,h1,h2⟩:=h;exact⟨nm,o,h1,h2⟩
theorem lJ{c c':eO}{nm:aG}{o:Obj}(h:c'.P nm=c.P nm/\c'.G nm=c.G nm)(b:aG):fu c' nm o b=fu c nm o b:=by cases o<;>simp only[fu,h.1,h.2]
theorem Ok.vD{E:Tab}{σ σ':St}{w w':bF}{c c':eO}(h:Ok E σ w c)(Ch:aG->Prop)
  (hσ:∀nm,¬Ch nm->σ' (cX nm)=σ (cX nm)) (ic:∀nm,σ (cX nm)≠ .jH->σ' (cX nm)≠ .jH) (hA:qx σ c c') (hAG:∀nm,¬Ch nm->σ (cX nm)≠ .jH->c'.G nm=c.G nm)
  (hW:∀b,b<w.heap.size->¬jJ Ch σ c b->w'.heap[b]? =w.heap[b]?) (fX:w.heap.size<=w'.heap.size)
  (hK:∀b,c.K b->c'.K b) (TL:∀b,c'.K b->c.K b\/jJ Ch σ c b\/w.heap.size<=b) (EW:∀b,c'.K b->b<w'.heap.size)
  (mn:∀nm o,Ch nm->σ' (cX nm)= .o o->pf E w' c' nm o)
  (pq:∀nm o b,Ch nm->σ' (cX nm)= .o o->fu c' nm o b->(jJ Ch σ c b\/w.heap.size<=b)/\¬c'.K b)
  (QH:∀nm o vU o' b,Ch nm->Ch vU->σ' (cX nm)= .o o->σ' (cX vU)= .o o'->fu c' nm o b->fu c' vU o' b->nm=vU)
  (Hc:∀nm xs,Ch nm->σ' (cX nm)= .o (.box xs)->∀a∈xs,iU σ' a)
  (M7:w'.os=w.os) (QI:w'.tape=w.tape) (abA:w'.output=w.output):Ok E σ' w' c'/\nQ σ c w σ' c' w':=by
 have LK:∀nm o b,¬Ch nm->σ (cX nm)= .o o->fu c nm o b->¬jJ Ch σ c b:=by intro nm o b hc ho hf ⟨ig,o2,hc2,ho2,hf2⟩;exact hc (h.sep nm o ig o2 b ho ho2 hf hf2▸hc2)
 have agr:∀nm o,¬Ch nm->σ' (cX nm)= .o o->σ (cX nm)= .o o/\(c'.P nm=c.P nm/\c'.G nm=c.G nm):=by intro nm o hc ho;rw[hσ nm hc]at ho;exact⟨ho,(hA nm (.inl (by rw[ho];simp))).1,hAG nm hc (by rw[ho];simp)⟩
 have afJ:∀b,c.K b->w'.heap[b]? =w.heap[b]? :=λb hb=>hW b (h.lt b hb) (λhi=>h.HB hi.own hb);have lt:∀nm o b,σ (cX nm)= .o o->fu c nm o b->b<w.heap.size:=λnm o b ho hf=>vj.lt h ⟨nm,o,ho,hf⟩;refine⟨⟨?_, ?_, ?_,EW, ?_⟩,⟨M7,QI,abA,fX,hK, ?_, ?_, ?_⟩⟩
 ·intro nm o ho;by_cases hc:Ch nm
  ·exact mn nm o hc ho
  ·obtain⟨ue,ha⟩:=agr nm o hc ho;refine(h.obj nm o ue).frame afJ hK (λb hb=>hW b (lt nm o b ue hb) (LK nm o b hc ue hb)) ha ?_;intro xs hx a hm n hn;exact hA n (.inl (h.kn nm xs (hx▸ue) a hm n hn))
 ·intro nm o vU o' b ho ue hf wC;by_cases hc:Ch nm
  ·by_cases G7:Ch vU
   ·exact QH nm o vU o' b hc G7 ho ue hf wC
   ·obtain⟨h1,ha⟩:=agr vU o' G7 ue;rw[lJ ha]at wC;rcases(pq nm o b hc ho hf).1 with hi|hi
    ·exact cq hi (LK vU o' b G7 h1 wC)
    ·have:=lt vU o' b h1 wC;omega
  ·obtain⟨h1,ha⟩:=agr nm o hc ho;rw[lJ ha]at hf;by_cases G7:Ch vU
   ·rcases(pq vU o' b G7 ue wC).1 with hi|hi
    ·exact cq hi (LK nm o b hc h1 hf)
    ·have:=lt nm o b h1 hf;omega
   ·obtain⟨h2,ha'⟩:=agr vU o' G7 ue;rw[lJ ha']at wC;exact h.sep nm o vU o' b h1 h2 hf wC
 ·intro nm o b ho hf;by_cases hc:Ch nm
  ·exact(pq nm o b hc ho hf).2
  ·obtain⟨h1,ha⟩:=agr nm o hc ho;rw[lJ ha]at hf;intro hk;rcases TL b hk with h2|h2|h2
   ·exact h.kk nm o b h1 hf h2
   ·exact LK nm o b hc h1 hf h2
   ·have:=lt nm o b h1 hf;omega
 ·intro nm xs ho a hm;by_cases hc:Ch nm
  ·exact Hc nm xs hc ho a hm
  ·obtain⟨h1,_⟩:=agr nm _ hc ho;intro n hn;exact ic n (h.kn nm xs h1 a hm n hn)
 ·intro b hb hn;exact hW b hb (λhi=>hn hi.own)
 ·rintro b ⟨nm,o,ho,hf⟩;by_cases hc:Ch nm
  ·exact(pq nm o b hc ho hf).1.imp jJ.own id
  ·obtain⟨h1,ha⟩:=agr nm o hc ho;rw[lJ ha]at hf;exact .inl ⟨nm,o,h1,hf⟩
 ·intro b hb;rcases TL b hb with h2|h2|h2
  ·exact .inl h2
  ·exact .inr (.inl h2.own)
  ·exact .inr (.inr h2)
theorem Ok.change{E:Tab}{σ σ':St}{w w':bF}{c c':eO}(h:Ok E σ w c)(Ch:aG->Prop)
  (hσ:∀nm,¬Ch nm->σ' (cX nm)=σ (cX nm)) (ic:∀nm,σ (cX nm)≠ .jH->σ' (cX nm)≠ .jH) (hA:jj σ c c')
  (hW:∀b,b<w.heap.size->¬jJ Ch σ c b->w'.heap[b]? =w.heap[b]?) (fX:w.heap.size<=w'.heap.size)
  (hK:∀b,c.K b->c'.K b) (TL:∀b,c'.K b->c.K b\/jJ Ch σ c b\/w.heap.size<=b) (EW:∀b,c'.K b->b<w'.heap.size)
  (mn:∀nm o,Ch nm->σ' (cX nm)= .o o->pf E w' c' nm o)
  (pq:∀nm o b,Ch nm->σ' (cX nm)= .o o->fu c' nm o b->(jJ Ch σ c b\/w.heap.size<=b)/\¬c'.K b)
  (QH:∀nm o vU o' b,Ch nm->Ch vU->σ' (cX nm)= .o o->σ' (cX vU)= .o o'->fu c' nm o b->fu c' vU o' b->nm=vU)
  (Hc:∀nm xs,Ch nm->σ' (cX nm)= .o (.box xs)->∀a∈xs,iU σ' a)
  (M7:w'.os=w.os) (QI:w'.tape=w.tape) (abA:w'.output=w.output):Ok E σ' w' c'/\nQ σ c w σ' c' w':=
 h.vD Ch hσ ic hA.w (λnm _ hn=>(hA nm (.inl hn)).2) hW fX hK TL EW mn pq QH Hc M7 QI abA
theorem Ok.slot{E:Tab}{σ σ':St}{w:bF}{c:eO}(h:Ok E σ w c)(hσ:∀nm,σ' (cX nm)=σ (cX nm)):Ok E σ' w c/\nQ σ c w σ' c w:=by
 refine⟨⟨λnm o ho=>h.obj nm o (hσ nm▸ho),λnm o vU o' b h1 h2=>h.sep nm o vU o' b (hσ nm▸h1) (hσ vU▸h2),λnm o b h1=>h.kk nm o b (hσ nm▸h1),h.lt,λnm xs ho a hm n hn=>by rw[hσ];exact h.kn nm xs (hσ nm▸ho) a hm n hn⟩,
  ⟨rfl,rfl,rfl,cu _,λ_ h=>h,λ_ _ _=>rfl,λb ⟨nm,o,ho,hf⟩=> .inl ⟨nm,o,hσ nm▸ho,hf⟩,λ_ h=> .inl h⟩⟩
theorem Cs(a:Act)(d:aG)(v:bg)(h:d<a.tmps.size):(a.put (aj d) v).eval (.tmp d)=v:=by simp[Tx,Gg,h]
theorem GW(a:Act)(d n:aG)(v:bg)(h:n≠d):(a.put (aj d) v).eval (.tmp n)=a.eval (.tmp n):=by simp only[Tx,Gg,er,nJ];rw[bM (λe=>h e.symm)]
theorem e_.vD{E:Tab}{σ σ':St}{a:Act}{w w':bF}{c c':eO}(h:e_ E σ a w c)(b8:Ok E σ w c)(hG:nQ σ c w σ' c' w')(hA:qx σ c c')(ic:∀nm,σ (cX nm)≠ .jH->σ' (cX nm)≠ .jH)
  (o:e8) (v:bg) (hs:∀n,o.dst≠aj n->slot σ' n=slot σ n) (hd:∀d,o.dst=aj d->d<a.tmps.size/\iW E w' c' (slot σ' d) v/\mf σ' (slot σ' d)):e_ E σ' (a.put o.dst v) w' c':=by
 have keep:∀n,iW E w' c' (slot σ n) (a.eval (.tmp n)):=λn=>(h.ok n).oK (hG.Xo b8) hG.K (λm hm=>hA m (.inl (h.kn n m hm)));have YO:∀n,mf σ' (slot σ n):=λn m hm=>ic m (h.kn n m hm);cases ho:o.dst with
 |none=>
  refine⟨λn=> ?_,λn=> ?_,h.df⟩
  ·rw[hs n (by simp[ho])];exact keep n
  ·rw[hs n (by simp[ho])];exact YO n
 |some d=>
  obtain⟨h1,h2,h3⟩:=hd d ho;refine⟨λn=> ?_,λn=> ?_,h.df⟩
  ·by_cases hn:n=d
   ·subst hn;rw[Cs a n v h1];exact h2
   ·rw[GW a d n v hn,hs n (by rw[ho];simpa using λe=>hn e.symm)];exact keep n
  ·by_cases hn:n=d
   ·subst hn;exact h3
   ·rw[hs n (by rw[ho];simpa using λe=>hn e.symm)];exact YO n
theorem e_.change{E:Tab}{σ σ':St}{a:Act}{w w':bF}{c c':eO}(h:e_ E σ a w c)(b8:Ok E σ w c)(hG:nQ σ c w σ' c' w')(hA:jj σ c c')(ic:∀nm,σ (cX nm)≠ .jH->σ' (cX nm)≠ .jH)
  (o:e8) (v:bg) (hs:∀n,o.dst≠aj n->slot σ' n=slot σ n) (hd:∀d,o.dst=aj d->d<a.tmps.size/\iW E w' c' (slot σ' d) v/\mf σ' (slot σ' d)):e_ E σ' (a.put o.dst v) w' c':=
 h.vD b8 hG hA.w ic o v hs hd
theorem qZ(σ:St)(o:e8)(v:SV):(∀n,o.dst≠aj n->slot (wr σ (dw o v)) n=slot σ n)/\(∀d,o.dst=aj d->slot (wr σ (dw o v)) d=v)/\∀nm,wr σ (dw o v) (cX nm)=σ (cX nm):=by
 cases ho:o.dst with
 |none=>simp[dw,ho,wr]
 |some d=>
  refine⟨λn hn=> ?_,λd' hd=> ?_,λnm=> ?_⟩
  ·simp only[dw,ho,wr];rw[wi,bM (by rintro rfl;exact hn rfl)]
  ·cases hd;simp only[dw,ho,wr];rw[wi,bC rfl]
  ·simp only[dw,ho,wr];exact H4 _ _ _ _
end Go.FG

namespace Go.FG
def im:Ck->bg
 | .i k=> .int k 0| .b=> .bool aq| .s=> .string ⟨#[]⟩| .l _=> .slice ao 0 0| .o=> .nilIface
def lz:AV->bg
 | .i k n=> .int k n| .b x=> .bool x| .s x=> .string x|_=> .nilIface
structure eg (P:cR) (E:Tab):Prop where
 info:∀t ti,E.ty t=aj ti->∃inf,P.info? t=aj inf/\inf.size=ti.ks.length/\inf.bytes=ti.bytes/\0<ti.ks.length/\
  (JI ti.ks=ak->∃z,inf.zero=aj z/\z.cells=(ti.ks.map im).toArray/\(ti.agg=ak->z= .agg (ti.ks.map im).toArray))
 desc:∀t ti,E.ty t=aj ti->∃d,P.underlying t=aj d/\
  (ti.agg=ak->∃fs,d= .struct fs/\∀f o n,E.fo t f=aj (o,n)->∃fd,fs[f]? =aj fd/\fd.offset=o/\(P.info? fd.type).map (·.size)=aj n/\n≠0/\o+n<=ti.ks.length)/\
  (ti.agg=aq->(∃k,ti.ks=[.i k]/\d= .int k)\/(ti.ks=[.b]/\d= .bool)\/(ti.ks=[.s]/\d= .string)\/(∃e,ti.ks=[.l e]/\d= .slice e)\/
   (ti.ks=[.o]/\(match d with| .struct _| .array _ _=>aq|_=>ak)=ak))
 fo:∀t f o n,E.fo t f=aj (o,n)->∃ti,E.ty t=aj ti/\ti.agg=ak
 pl:∀t ti,E.ty t=aj ti->ti.agg=ak->∀fs,P.underlying t=aj (.struct fs)->∃pl,fs.toList.mapM (λf=>(P.info? f.type).map λi=>(f.offset,i.size))=aj pl/\∀f o n,E.fo t f=aj (o,n)->pl[f]? =aj (o,n)
 eq:∀t ti,lZ t E.eqs=ak->E.ty t=aj ti->∀(w:bF) (x y:dr) (xs ys:aA AV) (r:aY),UF xs ys=aj r->xs.map E4=ti.ks->ys.map E4=ti.ks->
  (do eqGuard .eql t x y (.agg (xs.map lz).toArray) (.agg (ys.map lz).toArray);binOp .eql t (.agg (xs.map lz).toArray) (.agg (ys.map lz).toArray)).run P w= .ok (.bool r) w/\
  (do eqGuard .neq t x y (.agg (xs.map lz).toArray) (.agg (ys.map lz).toArray);binOp .neq t (.agg (xs.map lz).toArray) (.agg (ys.map lz).toArray)).run P w= .ok (.bool !r) w
 fl:∀t f,E.Ql t f=ak->∀fs fd,P.underlying t=aj (.struct fs)->fs[f]? =aj fd->∀w,(Go.isAgg fd.type).run P w= .ok aq w
theorem Da{v:bg}(h:v.oneCell'=ak):v.cells= #[v]:=by cases v<;>simp_all [Value.cells,Value.oneCell']
theorem ej.one{E:Tab}{w:bF}{c:eO}{a:AV}{v:bg}(h:ej E w c a v):v.oneCell'=true:=by
 cases a with
 |i=>cases h;rfl
 |b=>cases h;rfl
 |s=>cases h.1;rfl
 |nl=>cases h;rfl
 |sh e xs=>cases h<;>rfl
 |own n=>cases h;unfold lh;split<;>rfl
 |vw n lo hi=>
  obtain⟨_,_,h1,h2⟩:=h;by_cases hn:(c.P n).nil=ak
  ·rw[h1 hn];rfl
  ·rcases h2 (by simpa using hn)with ⟨_,h⟩|⟨_,o,_,h⟩<;>rw[h]<;>rfl
 |bp n j=>cases h;rfl
 |rp n i j=>rw[h.2];rfl
 |sp e xs i j=>obtain⟨_,_,_,_,_,_,_,h⟩:=h;rw[h];rfl
 |inn n i j=>rw[h.1.2];unfold lh;split<;>rfl
 |ip n i j i2 j2=>rw[h.1.2.2];rfl
 |fn f iC=>obtain⟨ps,h,_⟩:=h;rw[h];rfl
 |fp cs j=>obtain⟨b,h,_⟩:=h;rw[h];rfl
section
variable {P:cR} (w:bF)
theorem Addr.nA(b o i:aG):(ad b o).add i=ad b (o+i):=by unfold Addr.add ad;split<;>simp_all
theorem CG(b o:aG):∀(vs:aA bg) (i:aG) (w:bF) (cur:di bg),nq w b cur->o+i+vs.length<=cur.size->(∀v∈vs,v.oneCell'=ak)->
  (storeCells (ad b o) vs i).run P w= .ok () (w.setRow b (cur.toList.take (o+i)++vs++cur.toList.drop (o+i+vs.length)).toArray):=by
 intro vs;induction vs with
 |nil=>intro i w cur hb _ _;obtain⟨t,fr,hg,hf⟩:=hb;simp only[storeCells,dn,ju,wP,List.take_append_drop,sQ];rw[setRow_self w b cur t fr hg];rfl
 |cons v rest ih=>
  intro i w cur hb hl h1;have hi:o+i<cur.size:=by simp at hl;omega
  have amC:=hb.free hi;obtain⟨t,fr,hg,hf⟩:=hb;have hcell:w.cell? (ad b (o+i))=aj cur[o+i]:=by simp[World.cell?,hg,hi]
  have Ju:(store ((ad b o).add i) v).run P w= .ok () (w.setRow b (cur.setIfInBounds (o+i) v)):=by rw[Addr.nA,run_store P w _ v _ (h1 v (by simp)),hcell];simp[amC,setCell_eq_setRow w b (o+i) cur t fr v hg]
  have N4:nq (w.setRow b (cur.setIfInBounds (o+i) v)) b (cur.setIfInBounds (o+i) v):=⟨t,fr,setRow_heap w b cur _ t fr hg,by simpa using hf⟩
  have ih':=ih (i+1) (w.setRow b (cur.setIfInBounds (o+i) v)) (cur.setIfInBounds (o+i) v) N4 (by simp at hl⊢;omega) (λx hx=>h1 x (by simp[hx]));simp only[storeCells,cg,Ju,bB,ih',setRow_setRow];congr 3;have e:=list_seg_step cur.toList (o+i) v rest (by simp at hl⊢;omega);simpa [Array.toList_setIfInBounds,lB]using e
def dY(cur:di bg)(o:aG)(vs:aA bg):di bg:=(cur.toList.take o++vs++cur.toList.drop (o+vs.length)).toArray
theorem eS{cur:di bg}{o:aG}{vs:aA bg}(h:o+vs.length<=cur.size):(dY cur o vs).size=cur.size:=by simp[dY];omega
theorem gd{cur:di bg}{o:aG}{vs:aA bg}(h:o+vs.length<=cur.size)(k:aG):
  (dY cur o vs)[k]? =if o<=k/\k<o+vs.length then vs[k-o]? else cur[k]? :=by
 simp only[dY,gU];by_cases h1:k<o
 ·rw[bM (by omega),cj,dj (by simp;omega),dV,bC h1];simp
 ·by_cases h2:k<o+vs.length
  ·rw[bC ⟨by omega,h2⟩,cj,c6 (by simp;omega),dj (by simp;omega)];congr 1;simp;omega
  ·rw[bM (by omega),cj,c6 (by simp;omega),c6 (by simp;omega),dM];simp only[cQ];congr 1;simp;omega
theorem mX{b o:aG}{vs:aA bg}{cur:di bg}(hb:nq w b cur)(hl:o+vs.length<=cur.size)(h1:∀v∈vs,v.oneCell'=ak):
  (storeCells (ad b o) vs).run P w= .ok () (w.setRow b (dY cur o vs)):=by have:=CG (P:=P) b o vs 0 w cur hb (by simpa using hl) h1;simpa [dY]using this
theorem nq.setRow{w:bF}{b:aG}{cur new:di bg}(h:nq w b cur)(hs:new.size=cur.size):nq (w.setRow b new) b new:=by obtain⟨t,fr,hg,hf⟩:=h;exact⟨t,fr,setRow_heap w b cur new t fr hg,by rw[hs];exact hf⟩
theorem nq.alloc(w:bF)(cs:di bg)(t:TypeId):nq (w.alloc (.cells cs t)) w.heap.size cs:=
 ⟨t,(0,0),heap_alloc_new w _,λo _=>by simp⟩
theorem wb{b o:aG}{cs:aA bg}(h:∀j v,cs[j]? =aj v->w.cell? (ad b (o+j))=aj v):(loadCells (ad b o) cs.length).run P w= .ok cs.toArray w:=
 run_loadCells_list w (ad b o) cs (λj v hj=>by rw[Addr.nA];exact h j v hj)
theorem BD{E:Tab}(hE:eg P E){t:aG}{ti:TI}(ht:E.ty t=aj ti){b o:aG}{cs:aA bg}(hl:cs.length=ti.ks.length)(h:∀j v,cs[j]? =aj v->w.cell? (ad b (o+j))=aj v):
  (wN t (.pointer (aj (ad b o)))).run P w= .ok (if ti.agg=ak then .agg cs.toArray else cs.headD .nilIface) w:=by
 obtain⟨inf,hi,fX,_,kH,_⟩:=hE.info t ti ht;obtain⟨d,hd,ha,hn⟩:=hE.desc t ti ht;cases s7:ti.agg with
 |true=>obtain⟨fs,rfl,_⟩:=ha s7;have hr:=wb (P:=P) w (b:=b) (o:=o) h;simp only[wN,tD,loadVar,isAgg,cg,run_underlying hd,cM,bB,if_true,sizeOf,typeInfo,program,mI,hi,fX,<-hl,hr]
 |false=>
  have vO:∃k,ti.ks=[k]:=by rcases hn s7 with ⟨k,h,_⟩|⟨h,_⟩|⟨h,_⟩|⟨e,h,_⟩|⟨h,_⟩<;>exact⟨_,h⟩
  obtain⟨k,hk⟩:=vO;rw[hk]at hl;obtain⟨v,rfl⟩:=gF.1 hl;have hc:=h 0 v rfl;simp only[wP]at hc;have atQ:(match d with| .struct _| .array _ _=>ak|_=>aq)=false:=by
   rcases hn s7 with ⟨k,_,rfl⟩|⟨_,rfl⟩|⟨_,rfl⟩|⟨e,_,rfl⟩|⟨_,h⟩
   ·rfl
   ·rfl
   ·rfl
   ·rfl
   ·cases d<;>simp_all
  have amj:(isAgg t).run P w= .ok aq w:=by simp only[isAgg,cg,run_underlying hd,bB];cases d<;>simp_all
  simp only[wN,tD,loadVar,cg,cM,bB,amj,dp,if_false,run_load,hc,List.headD]
theorem HR{E:Tab}(hE:eg P E){t:aG}{ti:TI}(ht:E.ty t=aj ti){b o:aG}{v:bg}{cur:di bg}(hl:v.cells.size=ti.ks.length)(hb:nq w b cur)(hf:o+v.cells.size<=cur.size)(h1:∀u∈v.cells.toList,u.oneCell'=ak):
  (T_ t (.pointer (aj (ad b o))) v).run P w= .ok () (w.setRow b (dY cur o v.cells.toList)):=by obtain⟨inf,hi,fX,_⟩:=hE.info t ti ht;have hr:=mX (P:=P) w hb (o:=o) (vs:=v.cells.toList) (by simpa using hf) h1;simp only[T_,tD,storeVar,cg,cM,bB,sizeOf,typeInfo,program,mI,hi,fX,hl,ne_eq,not_true_eq_false,if_false,hr]
theorem ND{E:Tab}(hE:eg P E){t:aG}{ti:TI}(ht:E.ty t=aj ti)(ho:JI ti.ks=ak):
  (Instr.alloc t ak (.tuple #[])).run P w= .ok (.pointer (aj (ad w.heap.size 0))) (w.alloc (.cells (ti.ks.map im).toArray t)):=by obtain⟨inf,hi,fX,_,_,hz⟩:=hE.info t ti ht;obtain⟨z,Ih,CB,_⟩:=hz ho;simp only[Instr.alloc,cg,zeroValue,typeInfo,program,mI,hi,bB,cM,Ih,newVar,newRow,newObj,CB];rfl
theorem Sg(t:aG)(v:bg):(Instr.box t v).run P w= .ok (.pointer (aj (ad w.heap.size 0))) (w.alloc (.cells v.cells t)):=by simp only[Instr.box,cg,newVar,newRow,newObj,mI,bB,cM];rfl
theorem HM{E:Tab}(hE:eg P E){t f off n:aG}(hf:E.fo t f=aj (off,n))(b o:aG):
  (T8 t (.pointer (aj (ad b o))) f).run P w= .ok (.pointer (aj (ad b (o+off)))) w:=by
 obtain⟨ti,ht,s7⟩:=hE.fo t f off n hf;obtain⟨d,hd,ha,_⟩:=hE.desc t ti ht;obtain⟨fs,rfl,Jq⟩:=ha s7;obtain⟨fd,h1,h2,h3,h4,_⟩:=Jq f off n hf;cases hq:P.info? fd.type with
 |none=>simp[hq]at h3
 |some inf=>
  have hs:inf.size=n:=by simpa [hq]using h3
  have ic:¬inf.size=0:=by omega
  simp only[T8,cg,run_underlying hd,bB,h1,tD,cM,fieldPlace,sizeOf,typeInfo,program,mI,hq,bM ic,mD,Addr.nA,h2]
theorem oG{E:Tab}(hE:eg P E){t e:aG}{ti:TI}(ht:E.ty t=aj ti)(s7:ti.agg=aq)(hk:ti.ks=[.l e]):P.underlying t=aj (.slice e):=by obtain⟨d,hd,_,hn⟩:=hE.desc t ti ht;rcases hn s7 with ⟨k,h,_⟩|⟨h,_⟩|⟨h,_⟩|⟨e',h,rfl⟩|⟨h,_⟩<;>rw[hk]at h<;>simp_all
theorem HN{E:Tab}(hE:eg P E){t e:aG}{te:TI}(hu:P.underlying t=aj (.slice e))(he:E.ty e=aj te)(b o n c:aG)(k:mH)(i:az)(h0:0<=i)(h1:i<n):
  (T9 t (.slice (aj (ad b o)) n c) (.int k i)).run P w= .ok (.pointer (aj (ad b (o+i.toNat*te.ks.length)))) w:=by obtain⟨inf,hi,fX,_⟩:=hE.info e te he;simp only[T9,asIntOf,cg,cM,bB,run_underlying hu,h0,h1,and_self,if_true,sizeOf,typeInfo,program,mI,hi,fX,Addr.nA]
end
end Go.FG

namespace Go.FG
section
variable {P:cR} {E:fF} {σ:St} {a:Act} {w:bF} {c:eO}
theorem lM(dD:e_ E σ a w c){x:dr}{v:SV}(h:(Fh x).val σ=aj v):iW E w c v (a.eval x)/\mf σ v:=by
 cases x with
 |tmp t=>
  simp only[Fh,Rd.z5]at h;cases hc:σ (pS t)with
  |v x=>rw[hc]at h;obtain rfl:=aF h;have h1:=dD.ok t;have h2:=dD.kn t;simp only[slot,hc]at h1 h2;exact⟨h1,h2⟩
  |o x=>rw[hc]at h;simp at h;subst h;exact⟨trivial,λn hn=>by simp[cD]at hn⟩
  |jH=>rw[hc]at h;simp at h;subst h;exact⟨trivial,λn hn=>by simp[cD]at hn⟩
 |const v'=>
  obtain rfl:=aF h;refine⟨?_, ?_⟩
  ·show iW E w c (cst v') v';unfold cst;split;case h_3 x=>
    cases hd:fj x.size 4611686018427387904 with
    |true=>exact⟨rfl,cC hd⟩
    |false=>exact trivial
   all_goals first|trivial|rfl
  ·unfold cst;intro n hn;split at hn;case h_3 x=>
    cases hd:fj x.size 4611686018427387904 with
    |true=>simp[hd,cD,bJ]at hn
    |false=>simp[hd,cD]at hn
   all_goals simp[cD,bJ]at hn
 |global g=>simp[Fh]at h
 |func f=>obtain rfl:=aF h;exact⟨⟨#[],rfl,rfl,λq cs hq=>by simp at hq⟩,λn hn=>by simp[cD,bJ]at hn⟩
theorem iJ(dD:e_ E σ a w c){x:dr}{v:AV}(h:(qU x).val σ=aj v):ej E w c v (a.eval x)/\iU σ v:=by
 obtain⟨s,h1,h2⟩:=Rd.bind_some h;obtain⟨h3,h4⟩:=lM dD h1;split at h2
 ·obtain rfl:=aF h2;exact⟨h3,λn hn=>h4 n (by simpa [cD]using hn)⟩
 ·simp at h2
theorem py(dD:e_ E σ a w c){x:dr}{k:mH}{n:az}(h:(Bk x).val σ=aj (k,n)):a.eval x= .int k n:=by
 obtain⟨s,h1,h2⟩:=Rd.bind_some h;obtain⟨h3,_⟩:=iJ dD h1;split at h2
 ·simp at h2;obtain⟨rfl,rfl⟩:=h2;exact h3
 ·simp at h2
theorem dt{nm:aG}{x:Obj}(h:(jq nm).val σ=aj x):σ (cX nm)= .o x:=by
 simp only[jq,Rd.z5]at h;split at h
 ·rename_i y hy;simp at h;subst h;exact hy
 ·simp at h
theorem dS{t:aG}{ti:TI}(h:(rO E t).val σ=aj ti):E.ty t=aj ti:=by
 unfold rO at h;split at h
 ·simp at h;subst h;assumption
 ·simp at h
theorem j9{nm:aG}{u:Unit}(h:(fresh nm).val σ=aj u):σ (cX nm)= .jH/\nm<900000000:=by
 simp only[fresh,Rd.z5]at h;split at h
 ·rename_i hy;obtain⟨h1,_⟩:=cE h;exact⟨hy,by have:=cC h1;omega⟩
 ·simp at h
def gD(P:cR)(E:fF)(σ:St)(a:Act)(w:bF)(c:eO)(o:e8)(ws:aA (aG×eE)):Prop:=
 ∀(K:Act->bF->Prop) (Q:Exit->Act->bF->Prop),
  (∀v w' c',Ok E (wr σ ws) w' c'->e_ E (wr σ ws) (a.put o.dst v) w' c'->nQ σ c w (wr σ ws) c' w'->qx σ c c'->K (a.put o.dst v) w')->o.wp P a w K Q
theorem wv{o:e8}{v:bg}{w':bF}{K:Act->bF->Prop}{Q:Exit->Act->bF->Prop}(hr:(execOp a.eval o).run P w= .ok (.value v) w')(hK:K (a.put o.dst v) w'):o.wp P a w K Q:=by unfold Mv;rw[hr];exact hK
theorem BP{o:e8}{w':bF}{K:Act->bF->Prop}{Q:Exit->Act->bF->Prop}(hr:(execOp a.eval o).run P w= .ok .skip w')(hK:K (a.put o.dst undef) w'):o.wp P a w K Q:=by unfold Mv;rw[hr];exact hK
theorem jj.refl(σ:St)(c:eO):jj σ c c:=λ_ _=>⟨rfl,rfl⟩
theorem gn(b8:Ok E σ w c)(dD:e_ E σ a w c){o:e8}(hd:∀d,o.dst=aj d->d<a.tmps.size){s:SV}{v:bg}
  (hs:iW E w c s v) (hk:mf σ s) (hr:(execOp a.eval o).run P w= .ok (.value v) w):gD P E σ a w c o (dw o s):=by
 intro K Q hK;obtain⟨s1,s2,s3⟩:=qZ σ o s;obtain⟨h1,h2⟩:=b8.slot s3;refine wv hr (hK v w c h1 ?_ h2 (jj.refl _ _).w);refine dD.change b8 h2 (jj.refl _ _) (λnm hn=>by rw[s3];exact hn) o v s1 (λd ho=>⟨hd d ho, ?_, ?_⟩)
 ·rw[s2 d ho];exact hs
 ·rw[s2 d ho];intro n hn;rw[s3];exact hk n hn
theorem AZ(b8:Ok E σ w c)(dD:e_ E σ a w c){o:e8}(hd:∀d,o.dst=aj d->d<a.tmps.size){nm:aG}{ob:Obj}{s:SV}{v:bg}{w':bF}{p:Pl}{g:aG->aG->Pl}
  (hn:σ (cX nm)= .jH) (jG:nm<900000000)
  (mn:∀c':eO,c'.P nm=p->c'.G nm=g->(∀b,c.K b->c'.K b)->jj σ c c'->pf E w' c' nm ob)
  (pq:∀c':eO,c'.P nm=p->c'.G nm=g->∀b,fu c' nm ob b->w.heap.size<=b)
  (Hc:∀xs,ob= .box xs->∀a∈xs,iU σ a)
  (wF:∀c':eO,c'.P nm=p->c'.G nm=g->iW E w' c' s v) (zq:∀n∈cD s,n=nm\/σ (cX n)≠ .jH)
  (hW:∀b,b<w.heap.size->w'.heap[b]? =w.heap[b]?) (fX:w.heap.size<=w'.heap.size) (M7:w'.os=w.os) (U1:w'.tape=w.tape) (UW:w'.output=w.output)
  (hr:(execOp a.eval o).run P w= .ok (.value v) w'):gD P E σ a w c o ((cX nm, .o ob)::dw o s):=by
 intro K Q hK;let c':eO:=⟨λn=>if n=nm then p else c.P n,λn=>if n=nm then g else c.G n,c.K⟩
 have hP:c'.P nm=p:=bC rfl;have hG:c'.G nm=g:=bC rfl;have hA:jj σ c c':=λm hm=>by
  have:m≠nm:=by rintro rfl;rcases hm with h|h;exact h hn;omega
  exact⟨bM this,bM this⟩
 let σ1:=o_ σ (cX nm) (.o ob);obtain⟨s1,s2,s3⟩:=qZ σ1 o s;have key:∀m,wr σ1 (dw o s) (cX m)=if m=nm then .o ob else σ (cX m):=λm=>by rw[s3];exact pB _ _ _ _
 have ic:∀m,σ (cX m)≠ .jH->wr σ1 (dw o s) (cX m)≠ .jH:=λm hm=>by rw[key];split<;>simp_all
 have hh:=b8.change (σ':=wr σ1 (dw o s)) (w':=w') (c':=c') (λm=>m=nm) (λm hm=>by rw[key,bM hm]) ic hA
  (λb hb _=>hW b hb) fX (λ_ h=>h) (λ_ h=> .inl h) (λb hb=>jd (b8.lt b hb) fX)
  (λm x hm ho=>by subst hm;rw[key,bC rfl]at ho;cases ho;exact mn c' hP hG (λ_ h=>h) hA)
  (λm x b hm ho hf=>by subst hm;rw[key,bC rfl]at ho;cases ho;have:=pq c' hP hG b hf;exact⟨.inr this,λhk=>by have:=b8.lt b hk;omega⟩)
  (λm x m' x' b hm vN _ _ _ _=>by rw[hm,vN])
  (λm xs hm ho y hy n j_=>by subst hm;rw[key,bC rfl]at ho;cases ho;exact ic n (Hc xs rfl y hy n j_)) M7 U1 UW
 refine wv hr (hK v w' c' hh.1 ?_ hh.2 hA.w);refine dD.change b8 hh.2 hA ic o v (λn j_=>by rw[s1 n j_];exact i9 _ _ _ _) (λd ho=>⟨hd d ho, ?_, ?_⟩)
 ·show iW E w' c' (slot (wr σ1 (dw o s)) d) v;rw[s2 d ho];exact wF c' hP hG
 ·show mf (wr σ1 (dw o s)) (slot (wr σ1 (dw o s)) d);rw[s2 d ho];intro n j_;rw[key];split
  ·simp
  ·rename_i h;exact(zq n j_).resolve_left h
theorem sj(b8:Ok E σ w c)(dD:e_ E σ a w c){o:e8}(hd:∀d,o.dst=aj d->d<a.tmps.size){nm:aG}{ob ob':Obj}{s:SV}{v:bg}{w':bF}
  (hn:σ (cX nm)= .o ob) (mn:pf E w' c nm ob') (pq:∀b,fu c nm ob' b->fu c nm ob b)
  (Hc:∀xs,ob'= .box xs->∀a∈xs,iU σ a)
  (wF:iW E w' c s v) (zq:mf σ s)
  (hW:∀b,b<w.heap.size->¬fu c nm ob b->w'.heap[b]? =w.heap[b]?) (fX:w.heap.size<=w'.heap.size) (M7:w'.os=w.os) (U1:w'.tape=w.tape) (UW:w'.output=w.output)
  (hr:(execOp a.eval o).run P w= .ok (.value v) w'\/((execOp a.eval o).run P w= .ok .skip w'/\v=undef)):gD P E σ a w c o ([(cX nm, .o ob')]++dw o s):=by
 intro K Q hK;let σ1:=o_ σ (cX nm) (.o ob');obtain⟨s1,s2,s3⟩:=qZ σ1 o s;have key:∀m,wr σ1 (dw o s) (cX m)=if m=nm then .o ob' else σ (cX m):=λm=>by rw[s3];exact pB _ _ _ _
 have ic:∀m,σ (cX m)≠ .jH->wr σ1 (dw o s) (cX m)≠ .jH:=λm hm=>by rw[key];split<;>simp_all
 have gQ:∀b,fu c nm ob b->jJ (λm=>m=nm) σ c b:=λb hb=>⟨nm,ob,rfl,hn,hb⟩
 have hh:=b8.change (σ':=wr σ1 (dw o s)) (w':=w') (c':=c) (λm=>m=nm) (λm hm=>by rw[key,bM hm]) ic (jj.refl _ _)
  (λb hb UU=>hW b hb (λhf=>UU (gQ b hf))) fX (λ_ h=>h) (λ_ h=> .inl h) (λb hb=>jd (b8.lt b hb) fX)
  (λm x hm ho=>by subst hm;rw[key,bC rfl]at ho;cases ho;exact mn)
  (λm x b hm ho hf=>by subst hm;rw[key,bC rfl]at ho;cases ho;exact⟨.inl (gQ b (pq b hf)),b8.kk _ _ b hn (pq b hf)⟩)
  (λm x m' x' b hm vN _ _ _ _=>by rw[hm,vN])
  (λm xs hm ho y hy n j_=>by subst hm;rw[key,bC rfl]at ho;cases ho;exact ic n (Hc xs rfl y hy n j_)) M7 U1 UW
 have afp:e_ E (wr σ1 (dw o s)) (a.put o.dst v) w' c:=by
  refine dD.change b8 hh.2 (jj.refl _ _) ic o v (λn j_=>by rw[s1 n j_];exact i9 _ _ _ _) (λd ho=>⟨hd d ho, ?_, ?_⟩)
  ·rw[s2 d ho];exact wF
  ·rw[s2 d ho];intro n j_;rw[key];split
   ·simp
   ·exact zq n j_
 rcases hr with hr|⟨hr,rfl⟩
 ·exact wv hr (hK v w' c hh.1 afp hh.2 (jj.refl _ _).w)
 ·exact BP hr (hK undef w' c hh.1 afp hh.2 (jj.refl _ _).w)
end
end Go.FG

namespace Go.FG
theorem aa0:∀{x y:Ck},ckB x y=ak->x=y:=by intro x y h;cases x<;>cases y<;>simp[ckB]at h<;>first|rfl|(subst h;rfl)|(have:=aX h;subst this;rfl)
theorem qO:∀{a b:aA Ck},pO a b=ak->a=b
 |[],[],_=>rfl
 |[],_::_,h=>by simp[pO]at h
 |_::_,[],h=>by simp[pO]at h
 |x::l,y::r,h=>by
  simp only[pO,aK]at h;rw[aa0 h.1,qO h.2]
structure al4 (E:fF) (w:bF) (K:aG->Prop) (b o n c e:aG) (xs:aW) (ti:TI) (U:aG->aG->bg):Prop where
 nn:n=xs.length
 ty:E.ty e=aj ti
 cap:xs.length<=c
 mx:c<=maxLen
 kb:K b
 sh:∀y∈xs,y.map CV.kd=ti.ks
 cell:∀i j y x,xs[i]? =aj y->y[j]? =aj x->w.cell? (ad b (o+i*ti.ks.length+j))=aj (U i j)
 inn:∀i j y x,xs[i]? =aj y->y[j]? =aj x->cZ E w K (U i j) x
theorem cZ.Hr{E:fF}{w:bF}{K:aG->Prop}{b o n c e:aG}{xs:aW}(h:cZ E w K (.slice (aj (ad b o)) n c) (.l e xs))(hn:0<xs.length):∃ti U,al4 E w K b o n c e xs ti U:=by
 generalize hv:Value.slice (aj (ad b o)) n c=v at h;generalize hx:CV.l e xs=x at h;cases h with
 |i=>cases hx
 |b=>cases hx
 |s=>cases hx
 |nl=>cases hx;simp at hn
 |l e xs b o c ti U ht hc hm hK hs hcell gQ=>cases hx;cases hv;exact⟨ti,U,rfl,ht,hc,hm,hK,hs,hcell,gQ⟩
theorem I5{E:fF}{w:bF}{c:eO}{u:bg}{x:CV}(h:cZ E w c.K u x):ej E w c (dec x.kd x) u:=by
 cases x with
 |i k n=>cases h;rfl
 |b=>cases h;rfl
 |s=>cases h with|s _ ho=>exact⟨rfl,ho⟩
 |l e xs=>exact h
theorem LM{E:fF}{w:bF}{c:eO}{u:bg}{x:CV}(h:cZ E w c.K u x):ej E w c (Wt x) u:=by
 cases x with
 |i k n=>cases h;rfl
 |b=>cases h;rfl
 |s=>cases h with|s _ ho=>exact⟨rfl,ho⟩
 |l e xs=>exact h
theorem oF{E:fF}{w:bF}{c:eO}{u:bg}{x:CV}(hl:s8 x=aq)(h:Sc u x):ej E w c (dec x.kd x) u:=by
 cases x with
 |i=>exact h.1
 |b=>exact h.1
 |s=>exact h
 |l=>simp[s8]at hl
theorem Nh(k:Ck)(x:CV):bJ (dec k x)=[]:=by cases k<;>rfl
theorem Bd(x:CV):bJ (Wt x)=[]:=by cases x<;>rfl
theorem ld(xs:aW)(i:aG):∀(ks:aA Ck) (j q:aG),(tO xs i j ks)[q]? =(ks[q]?).map λk=>dec k (aw xs i (j+q)):=by
 intro ks;induction ks with
 |nil=>intro j q;simp[tO]
 |cons k ks ih=>
  intro j q;cases q with
  |zero=>simp[tO]
  |succ q=>simp only[tO,dI,ih];congr 2;funext k;congr 2;omega
theorem GP(nm:aG)(xs:aW)(i:aG):∀(ks:aA Ck) (j q:aG),(zl nm xs i j ks)[q]? =(ks[q]?).map λk=>match k with| .l _=>AV.inn nm i (j+q)|k=>dec k (aw xs i (j+q)):=by
 intro ks;induction ks with
 |nil=>intro j q;simp[zl]
 |cons k ks ih=>
  intro j q;cases q with
  |zero=>cases k<;>simp[zl]
  |succ q=>
   have e:j+1+q=j+(q+1):=by omega
   cases k<;>simp only[zl,dI,ih,e]
theorem fc{xs:aW}{i j:aG}{y:aA CV}{x:CV}(hi:xs[i]? =aj y)(hj:y[j]? =aj x):aw xs i j=x:=by simp[aw,jt,hi,hj]
theorem kh(xs:aW)(i:aG):∀(ks:aA Ck) (j:aG),(tO xs i j ks).length=ks.length:=by
 intro ks;induction ks with
 |nil=>intro j;rfl
 |cons k ks ih=>intro j;simp[tO,ih]
theorem yS(nm:aG)(xs:aW)(i:aG):∀(ks:aA Ck) (j:aG),(zl nm xs i j ks).length=ks.length:=by
 intro ks;induction ks with
 |nil=>intro j;rfl
 |cons k ks ih=>intro j;cases k<;>simp[zl,ih]
theorem qn{ks ks2:aA Ck}{j:aG}{y:aA CV}(hy:y.map CV.kd=ks)(h:(ks.drop j).take ks2.length=ks2){q:aG}(hq:q<ks2.length):∃x,y[j+q]? =aj x/\ks2[q]? =aj x.kd:=by
 have h1:ks2[q]? =ks[j+q]? :=by rw[<-h,dV,bC hq,dM]
 rw[<-hy,bE]at h1;cases hx:y[j+q]? with
 |none=>rw[hx]at h1;simp at h1;omega
 |some x=>exact⟨x,rfl,by rw[h1,hx];rfl⟩
section
variable {P:cR} {E:fF} {σ:St} {a:Act} {w:bF} {c:eO}
theorem tq{p:Pl}{G:aG->aG->Pl}{xs:aW}{ks:aA Ck}{i j e2:aG}(fW:iV w p xs (λi j u x=>if ak=ak then XC E w G i j u x else cZ E w c.K u x))(ma:∀y∈xs,y.map CV.kd=ks)(hi:i<p.n)(hk:ks[j]? =aj (.l e2)):
  ∃ys y,xs[i]? =aj y/\y[j]? =aj (.l e2 ys)/\∃u,XC E w G i j u (.l e2 ys):=by
 have lD:i<xs.length:=by rw[<-fW.n];exact hi
 have hy:xs[i]? =aj xs[i]:=by simp[lD]
 have h1:=ma xs[i] (bD lD);rw[<-h1,bE]at hk;cases hx:xs[i][j]? with
 |none=>rw[hx]at hk;cases hk
 |some x=>
  rw[hx]at hk;cases x with
  |l e ys=>
   cases hk;have jg:p.nil=false:=by
    cases hn:p.nil with
    |false=>rfl
    |true=>have:=(fW.nil hn).1;subst this;simp at lD
   obtain⟨vals,_,_,_,_,ng⟩:=fW.mem jg;obtain⟨u,_,hr⟩:=ng i _ j _ hy hx;rw[bC rfl]at hr;exact⟨ys,_,hy,hx,u,hr⟩
  |i=>cases hk
  |b=>cases hk
  |s=>cases hk
theorem gX{ks:aA Ck}(h:plain ks=ak){y:aA CV}(hy:y.map CV.kd=ks){j:aG}{x:CV}(hx:y[j]? =aj x):s8 x=false:=by
 have h1:x.kd∈ks:=by rw[<-hy];exact cJ.2 ⟨x,aQ hx,rfl⟩
 have h2:=bn.1 h _ h1;cases x<;>simp_all [CV.kd,s8]
structure PI (E:fF) (σ:St) (w:bF) (c:eO) (ti:TI) (v:bg) (xs:aA AV):Prop where
 ex:∃(b o:aG) (cs:aA bg),v= .pointer (aj (ad b o))/\cs.length=ti.ks.length/\(∀(j:aG) (u:bg),cs[j]? =aj u->w.cell? (ad b (o+j))=aj u)/\
  xs.length=ti.ks.length/\(∀(j:aG) (x:AV),xs[j]? =aj x->∃u:bg,cs[j]? =aj u/\ej E w c x u)
 kn:∀x∈xs,iU σ x
theorem lS{ti:TI}{b o:aG}{xs:aA AV}(hl:xs.length=ti.ks.length)(h:∀(j:aG) (x:AV),xs[j]? =aj x->∃u:bg,w.cell? (ad b (o+j))=aj u/\ej E w c x u)(hk:∀x∈xs,iU σ x):
  PI E σ w c ti (.pointer (aj (ad b o))) xs:=by
 refine⟨⟨b,o,(cO xs.length).map (λj=>(w.cell? (ad b (o+j))).getD undef),rfl,by simp[hl], ?_,hl, ?_⟩,hk⟩
 ·intro j u hu;simp only[bE]at hu;by_cases hj:j<xs.length
  ·obtain⟨u',rA,_⟩:=h j xs[j] (by simp[hj]);simp only[hj,uB,iS,rA,wR,jh]at hu;rw[rA,hu]
  ·simp[kC (l:=cO xs.length) (by simpa using hj)]at hu
 ·intro j x hx;obtain⟨u,hu,hv⟩:=h j x hx;refine⟨u, ?_,hv⟩
  have hj:j<xs.length:=(aU.1 hx).1;simp[hj,hu]
theorem Q_(b8:Ok E σ w c){ti:TI}{p:AV}{v:bg}{xs:aA AV}(hp:ej E w c p v)(h:(sw E ti p).val σ=aj xs):PI E σ w c ti v xs:=by
 have Wr:∀(n:aG) (k:Ck) (x:CV),n∈bJ (dec k x)->σ (cX n)≠ .jH:=λn k x hn=>by rw[Nh]at hn;simp at hn
 cases p with
 |bp nm j=>
  obtain⟨o,ho,h2⟩:=Rd.bind_some h;have mn:=b8.obj nm o (dt ho);obtain rfl:v=_:=hp;cases o with
  |box ys=>
   obtain⟨hle,h3⟩:=cE h2;have hle:=cC hle;obtain rfl:=aF h3;obtain⟨vals,hb,hs,hc⟩:=mn;refine lS (by simp;omega) (λq x hx=> ?_) (λx hx=>b8.kn nm ys (dt ho) x (kD (kE hx)));rw[dV]at hx;split at hx
   ·rw[dM]at hx;obtain⟨u,hu,hv⟩:=hc (j+q) x hx;exact⟨u,(hb.cell (j+q)).trans hu,hv⟩
   ·cases hx
  |nC cs=>
   obtain⟨hle,h3⟩:=cE h2;have hle:=cC hle;obtain rfl:=aF h3;refine lS (by simp;omega) (λq x hx=> ?_) (λx hx=> ?_)
   ·rw[bE,dV]at hx;split at hx
    ·rw[dM]at hx;cases hy:cs[j+q]? with
     |none=>rw[hy]at hx;cases hx
     |some y=>rw[hy]at hx;cases hx;obtain⟨u,hu,hv⟩:=mn.2 (j+q) y hy;exact⟨u,hu,LM hv⟩
    ·cases hx
   ·obtain⟨y,_,rfl⟩:=cJ.1 hx;intro n hn;rw[Bd]at hn;simp at hn
  |row=>simp at h2
  |fI=>simp at h2
  |dead=>simp at h2
 |fp cs j=>
  obtain⟨hle,h3⟩:=cE h;have hle:=cC hle;obtain rfl:=aF h3;obtain⟨b,rfl,hb⟩:=hp;refine lS (by simp;omega) (λq x hx=> ?_) (λx hx=> ?_)
  ·rw[bE,dV]at hx;split at hx
   ·rw[dM]at hx;cases hy:cs[j+q]? with
    |none=>rw[hy]at hx;cases hx
    |some y=>rw[hy]at hx;cases hx;obtain⟨u,hu,hv⟩:=hb.2 (j+q) y hy;exact⟨u,hu,LM hv⟩
   ·cases hx
  ·obtain⟨y,_,rfl⟩:=cJ.1 hx;intro n hn;rw[Bd]at hn;simp at hn
 |sp e ys i j=>
  obtain⟨te,ht,h2⟩:=Rd.bind_some h;have ht:=dS ht;obtain⟨hk,h3⟩:=cE h2;have hk:=qO hk;obtain rfl:=aF h3;obtain⟨b,o,cp,ti2,hh,hi,E1,rfl⟩:=hp;obtain rfl:te=ti2:=aF (ht.symm.trans E1);refine lS (kh _ _ _ _) (λq x hx=> ?_) (λx hx=> ?_)
  ·rw[ld]at hx;obtain⟨ti3,U,hL⟩:=hh.Hr (by omega);obtain rfl:te=ti3:=aF (ht.symm.trans hL.ty);have hq:q<ti.ks.length:=by
    cases hq:ti.ks[q]? with
    |none=>rw[hq]at hx;cases hx
    |some k=>exact(aU.1 hq).1
   have hy:ys[i]? =aj ys[i]:=by simp[hi]
   obtain⟨z,hz,uR⟩:=qn (hL.sh ys[i] (bD hi)) hk hq;rw[uR]at hx;cases hx;rw[fc hy hz];exact⟨U i (j+q),by have:=hL.cell i (j+q) _ z hy hz;rwa[show o+i*te.ks.length+j+q=o+i*te.ks.length+(j+q)by omega],I5 (hL.inn i (j+q) _ z hy hz)⟩
  ·obtain⟨q,hq⟩:=bZ hx;rw[ld]at hq;cases uR:ti.ks[q]? with
   |none=>rw[uR]at hq;cases hq
   |some k=>rw[uR]at hq;cases hq;intro n hn;exact Wr n _ _ hn
 |rp nm i j=>
  obtain⟨o,ho,h2⟩:=Rd.bind_some h;have ho:=dt ho;have mn:=b8.obj nm o ho;obtain⟨hi,rfl⟩:=hp;cases o with
  |row e ex ys=>
   obtain⟨te,ht,h2⟩:=Rd.bind_some h2;have ht:=dS ht;obtain⟨hk,h3⟩:=cE h2;have hk:=qO hk;have h3:(ex=ak/\plain ti.ks=ak/\xs=tO ys i j ti.ks)\/((ex=aq\/xT nm=aq)/\xs=bif ex then zl nm ys i j ti.ks else tO ys i j ti.ks):=by
    cases hF:(ex&&xT nm)with
    |true=>rw[hF,ay]at h3;obtain⟨ry,h3⟩:=cE h3;rw[aK]at hF;exact .inl ⟨hF.1,ry,(aF h3).symm⟩
    |false=>
     rw[hF,aD]at h3;refine .inr ⟨?_,(aF h3).symm⟩;cases ex with
     |false=>exact .inl rfl
     |true=>exact .inr (by simpa using hF)
   obtain⟨⟨ti2,E1,fX,ma⟩,fW,_⟩:=mn;obtain rfl:te=ti2:=aF (ht.symm.trans E1);have jg:(c.P nm).nil=false:=by
    cases hn:(c.P nm).nil with
    |false=>rfl
    |true=>have:=(fW.nil hn).1;subst this;rw[fW.n]at hi;simp at hi
   obtain⟨vals,hb,QC,_,nD,ng⟩:=fW.mem jg;have lD:i<ys.length:=by rw[<-fW.n];exact hi
   have hy:ys[i]? =aj ys[i]:=by simp[lD]
   rcases h3 with ⟨rfl,ry,rfl⟩|h3
   ·refine lS (kh _ _ _ _) (λq x hx=> ?_) (λx hx=> ?_)
    ·have hq:q<ti.ks.length:=by have:=(aU.1 hx).1;simpa [kh]using this
     obtain⟨z,hz,uR⟩:=qn (ma ys[i] (bD lD)) hk hq;obtain⟨u,hu,hr⟩:=ng i _ (j+q) z hy hz;rw[bC rfl]at hr;rw[ld,uR]at hx;cases hx;refine⟨u, ?_, ?_⟩
     ·rw[hb.cell];rw[<-hu];congr 1;omega
     ·have hzk:=bn.1 ry z.kd (aQ uR);show ej E w c (dec z.kd (aw ys i (j+q))) u;rw[fc hy hz];cases z with
      |l e2 zs=>cases hzk
      |i k n=>exact oF rfl hr
      |b t=>exact oF rfl hr
      |s t=>exact oF rfl hr
    ·obtain⟨q,hq⟩:=bZ hx;intro n hn;rw[ld]at hq;cases uR:ti.ks[q]? with
     |none=>rw[uR]at hq;cases hq
     |some k=>rw[uR]at hq;cases hq;exact Wr n _ _ hn
   obtain⟨hFn,rfl⟩:=h3;refine lS (by cases ex<;>simp[kh,yS]) (λq x hx=> ?_) (λx hx=> ?_)
   ·have hq:q<ti.ks.length:=by have:=(aU.1 hx).1;cases ex<;>simpa [kh,yS]using this
    obtain⟨z,hz,uR⟩:=qn (ma ys[i] (bD lD)) hk hq;obtain⟨u,hu,hr⟩:=ng i _ (j+q) z hy hz;refine⟨u, ?_, ?_⟩
    ·rw[hb.cell];rw[<-hu];congr 1;omega
    ·cases ex with
     |false=>rw[bM (by simp)]at hr;have hx:(tO ys i j ti.ks)[q]? =aj x:=hx;rw[ld,uR]at hx;cases hx;rw[fc hy hz];exact I5 hr
     |true=>
      rw[bC rfl]at hr;have hx:(zl nm ys i j ti.ks)[q]? =aj x:=hx;rw[GP,uR]at hx;cases z with
      |l e2 zs=>cases hx;exact⟨⟨hi,hr.1⟩,hFn.resolve_left (by simp)⟩
      |i k n=>cases hx;rw[fc hy hz];exact oF rfl hr
      |b t=>cases hx;rw[fc hy hz];exact oF rfl hr
      |s t=>cases hx;rw[fc hy hz];exact oF rfl hr
   ·obtain⟨q,hq⟩:=bZ hx;intro n hn;cases ex with
    |false=>
     have hq:(tO ys i j ti.ks)[q]? =aj x:=hq;rw[ld]at hq;cases uR:ti.ks[q]? with
     |none=>rw[uR]at hq;cases hq
     |some k=>rw[uR]at hq;cases hq;exact Wr n _ _ hn
    |true=>
     have hq:(zl nm ys i j ti.ks)[q]? =aj x:=hq;rw[GP]at hq;cases uR:ti.ks[q]? with
     |none=>rw[uR]at hq;cases hq
     |some k=>
      rw[uR]at hq;cases k with
      |l e2=>cases hq;simp[bJ]at hn;subst hn;rw[ho];simp
      |i=>cases hq;exact Wr n _ _ hn
      |b=>cases hq;exact Wr n _ _ hn
      |s=>cases hq;exact Wr n _ _ hn
      |o=>cases hq;exact Wr n _ _ hn
  |fI e ys=>
   obtain⟨te,ht,h2⟩:=Rd.bind_some h2;have ht:=dS ht;obtain⟨hk,h3⟩:=cE h2;have hk:=qO hk;obtain rfl:=aF h3;obtain⟨hh,hn,ti2,E1,fX⟩:=mn;obtain rfl:te=ti2:=aF (ht.symm.trans E1);have lD:i<ys.length:=by rw[<-hn];exact hi
   have hy:ys[i]? =aj ys[i]:=by simp[lD]
   have jg:(c.P nm).nil=false:=by
    cases hq:(c.P nm).nil with
    |false=>rfl
    |true=>unfold lh at hh;rw[bC hq]at hh;cases hh;simp at lD
   unfold lh at hh;rw[bM (by simp[jg]),hn]at hh;refine lS (kh _ _ _ _) (λq x hx=> ?_) (λx hx=> ?_)
   ·rw[ld]at hx;obtain⟨ti3,U,hL⟩:=hh.Hr (by omega);obtain rfl:te=ti3:=aF (ht.symm.trans hL.ty);have hq:q<ti.ks.length:=by
     cases hq:ti.ks[q]? with
     |none=>rw[hq]at hx;cases hx
     |some k=>exact(aU.1 hq).1
    obtain⟨z,hz,uR⟩:=qn (hL.sh ys[i] (bD lD)) hk hq;rw[uR]at hx;cases hx;rw[fc hy hz];exact⟨U i (j+q),by have:=hL.cell i (j+q) _ z hy hz;rw[<-this];congr 2;rw[fX];omega,I5 (hL.inn i (j+q) _ z hy hz)⟩
   ·obtain⟨q,hq⟩:=bZ hx;rw[ld]at hq;cases uR:ti.ks[q]? with
    |none=>rw[uR]at hq;cases hq
    |some k=>rw[uR]at hq;cases hq;intro n hn;exact Wr n _ _ hn
  |box=>simp at h2
  |nC=>simp at h2
  |dead=>simp at h2
 |ip nm i j i2 j2=>
  obtain⟨o,ho,h2⟩:=Rd.bind_some h;have ho:=dt ho;have mn:=b8.obj nm o ho;obtain⟨⟨lK,hi,rfl⟩,hFp⟩:=hp;cases o with
  |row e ex ys=>
   cases ex with
   |false=>simp at h2
   |true=>
    obtain⟨te,ht,h2⟩:=Rd.bind_some h2;have ht:=dS ht;split at h2
    ·rename_i e2 zp;obtain⟨t2,E1,h2⟩:=Rd.bind_some h2;have E1:=dS E1;obtain⟨hk,h3⟩:=cE h2;have hk:=qO hk;obtain rfl:=aF h3;obtain⟨⟨tj,htj,fX,ma⟩,fW,_⟩:=mn;obtain rfl:te=tj:=aF (ht.symm.trans htj);obtain⟨zs,y,hy,hyj,uu,_,tk,E2,ry,Jv,Cy,n8⟩:=tq (c:=c) fW ma lK zp;obtain rfl:t2=tk:=aF (E1.symm.trans E2);rw[fc hy hyj];refine lS (kh _ _ _ _) (λq x hx=> ?_) (λx hx=> ?_)
     ·rw[ld]at hx;have hq:q<ti.ks.length:=by
       cases hq:ti.ks[q]? with
       |none=>rw[hq]at hx;cases hx
       |some k=>exact(aU.1 hq).1
      have EY:i2<zs.length:=by rw[<-n8.n];exact hi
      have A4:(c.G nm i j).nil=false:=by
       cases hn:(c.G nm i j).nil with
       |false=>rfl
       |true=>have:=(n8.nil hn).1;subst this;simp at EY
      obtain⟨vals,hb,_,_,_,ng⟩:=n8.mem A4;have hzi:zs[i2]? =aj zs[i2]:=by simp[EY]
      obtain⟨z,hz,uR⟩:=qn (Cy zs[i2] (bD EY)) hk hq;obtain⟨u,hu,hr⟩:=ng i2 _ (j2+q) z hzi hz;rw[uR]at hx;cases hx;refine⟨u, ?_, ?_⟩
      ·rw[hb.cell,<-hu];congr 1;omega
      ·show ej E w c (dec z.kd (aw zs i2 (j2+q))) u;rw[fc hzi hz];exact oF (gX ry (Cy _ (bD EY)) hz) hr
     ·obtain⟨q,hq⟩:=bZ hx;rw[ld]at hq;cases uR:ti.ks[q]? with
      |none=>rw[uR]at hq;cases hq
      |some k=>rw[uR]at hq;cases hq;intro n hn;exact Wr n _ _ hn
    ·simp at h2
  |fI=>simp at h2
  |box=>simp at h2
  |nC=>simp at h2
  |dead=>simp at h2
 |i=>simp[sw]at h
 |b=>simp[sw]at h
 |s=>simp[sw]at h
 |sh=>simp[sw]at h
 |nl=>simp[sw]at h
 |own=>simp[sw]at h
 |vw=>simp[sw]at h
 |inn=>simp[sw]at h
 |fn=>simp[sw]at h
end
end Go.FG

namespace Go.FG
section
variable {P:cR} {E:fF} {σ:St} {a:Act} {w:bF} {c:eO} {o:e8} {nm:aG} {e:rT}
theorem iF{s:Sem bg}{v:bg}{w':bF}(hr:s.run P w= .ok v w'):(do pure (Next.value (<-s)):Sem Next).run P w= .ok (.value v) w':=by simp only[cg,hr,bB,cM]
theorem fP(b8:Ok E σ w c)(dD:e_ E σ a w c)(hd:∀d,o.dst=aj d->d<a.tmps.size){s:SV}{v:bg}(h:(val o s).val σ=aj e)(hs:iW E w c s v)(hk:mf σ s)(hr:(execOp a.eval o).run P w= .ok (.value v) w):gD P E σ a w c o e.ws:=by obtain rfl:=aF h;exact gn b8 dD hd hs hk hr
theorem DI(b8:Ok E σ w c)(dD:e_ E σ a w c)(hd:∀d,o.dst=aj d->d<a.tmps.size){b:aY}{x:AV}{v:bg}(h:(Kd o b x).val σ=aj e)(hc:e.cond=ak)(hs:b=ak->ej E w c x v)(hk:iU σ x)(hr:b=ak->(execOp a.eval o).run P w= .ok (.value v) w):gD P E σ a w c o e.ws:=by obtain rfl:=aF h;have hc:b=true:=hc;exact gn b8 dD hd (hs hc) (λn hn=>hk n (by simpa [cD]using hn)) (hr hc)
theorem s9{σ:St}{x:AV}(h:bJ x=[]):iU σ x:=λn hn=>by rw[h]at hn;simp at hn
theorem LP(b8:Ok E σ w c)(dD:e_ E σ a w c)(hd:∀d,o.dst=aj d->d<a.tmps.size){x:dr}(ho:o.op= .move x\/o.op= .assign x)(h:(lF E nm o).val σ=aj e):gD P E σ a w c o e.ws:=by
 have h':((Fh x).bind λv=>val o v).val σ=aj e:=by rcases ho with ho|ho<;>simpa [lF,ho]using h
 obtain⟨v,h1,h2⟩:=Rd.bind_some h';obtain⟨hv,hk⟩:=lM dD h1;refine fP b8 dD hd h2 hv hk ?_;rcases ho with ho|ho<;>(unfold execOp;rw[ho];rfl)
theorem HE(b8:Ok E σ w c)(dD:e_ E σ a w c)(hd:∀d,o.dst=aj d->d<a.tmps.size){x:dr}(ho:o.op= .nilCheck x)(h:(lF E nm o).val σ=aj e):gD P E σ a w c o e.ws:=by
 simp only[lF,ho]at h;obtain⟨p,h1,h⟩:=Rd.bind_some h;obtain⟨ex,kx⟩:=iJ dD h1;cases p with
 |bp n j=>have s6:a.eval x= .pointer (aj (ad (c.P n).blk j)):=ex;refine fP b8 dD hd h (v:=a.eval x) ex (λn hn=>kx n (by simpa [cD]using hn)) ?_;unfold execOp;rw[ho];simp only[s6];rfl
 |rp n i j=>have s6:a.eval x= .pointer (aj (ad (c.P n).blk ((c.P n).off+i*(c.P n).sz+j))):=ex.2;refine fP b8 dD hd h (v:=a.eval x) ex (λn hn=>kx n (by simpa [cD]using hn)) ?_;unfold execOp;rw[ho];simp only[s6];rfl
 |_=>cases h
theorem Ww(b8:Ok E σ w c)(dD:e_ E σ a w c)(hd:∀d,o.dst=aj d->d<a.tmps.size){x y z:dr}(ho:o.op= .pick x y z)(h:(lF E nm o).val σ=aj e)(hc:e.cond=ak):gD P E σ a w c o e.ws:=by
 simp only[lF,ho]at h;obtain⟨cx,h1,h⟩:=Rd.bind_some h;obtain⟨vy,h2,h⟩:=Rd.bind_some h;obtain⟨vz,h3,h⟩:=Rd.bind_some h;obtain⟨ex,kx⟩:=iJ dD h1;obtain⟨ey,ky⟩:=lM dD h2;obtain⟨ez,kz⟩:=lM dD h3;have run:∀b,a.eval x= .bool b->(execOp a.eval o).run P w= .ok (.value (if b then a.eval y else a.eval z)) w:=by intro b hb;unfold execOp;rw[ho];simp only[hb,asBool,cg,cM,bB]
 cases cx with
 |b b=>
  replace ex:a.eval x= .bool b:=ex;have both:∀p q,vy= .v aq [.b p]->vz= .v aq [.b q]->gD P E σ a w c o e.ws:=by
   rintro p q rfl rfl;refine fP b8 dD hd h (v:=if b then a.eval y else a.eval z) ?_ (λn hn=>by simp[cD,bJ]at hn) (run b ex);cases b
   ·exact ez
   ·exact ey
  have lft:vy= .je []->gD P E σ a w c o e.ws:=by
   rintro rfl;replace h:(Rd.ret (⟨!b,dw o vz⟩:rT)).val σ=aj e:=by cases vz<;>exact h
   obtain rfl:=aF h;have hb:b=false:=by simpa using hc
   subst hb;exact gn b8 dD hd ez kz (run aq ex)
  have rgt:vz= .je []->vy≠ .je []->gD P E σ a w c o e.ws:=by
   rintro rfl ic;replace h:(Rd.ret (⟨b,dw o vy⟩:rT)).val σ=aj e:=by
    cases vy with
    |un=>exact h
    |je l=>cases l with
     |nil=>exact cq rfl ic
     |cons=>exact h
    |v g xs=>cases g<;>(rcases xs with _|⟨⟨⟩,_|⟨_,_⟩⟩<;>exact h)
   obtain rfl:=aF h;have hb:b=true:=hc;subst hb;exact gn b8 dD hd ey ky (run ak ex)
  cases vy with
  |un=>cases vz with
   |un=>simp at h
   |je l=>cases l with
    |nil=>exact rgt rfl (by simp)
    |cons=>simp at h
   |v=>simp at h
  |je l=>cases l with
   |nil=>exact lft rfl
   |cons=>cases vz with
    |un=>simp at h
    |je l2=>cases l2 with
     |nil=>exact rgt rfl (by simp)
     |cons=>simp at h
    |v=>simp at h
  |v g xs=>cases vz with
   |un=>simp at h
   |je l2=>cases l2 with
    |nil=>exact rgt rfl (by simp)
    |cons=>simp at h
   |v g2 ys=>cases g<;>cases g2<;>rcases xs with _|⟨⟨⟩,_|⟨_,_⟩⟩<;>rcases ys with _|⟨⟨⟩,_|⟨_,_⟩⟩<;>first|(simp at h;done)|exact both _ _ rfl rfl
 |i=>simp at h
 |s=>simp at h
 |sh=>simp at h
 |nl=>simp at h
 |own=>simp at h
 |vw=>simp at h
 |bp=>simp at h
 |rp=>simp at h
 |sp=>simp at h
 |inn=>simp at h
 |ip=>simp at h
 |fn=>simp at h
 |fp=>simp at h
theorem Wv(hE:eg P E)(b8:Ok E σ w c)(dD:e_ E σ a w c)(hd:∀d,o.dst=aj d->d<a.tmps.size){t:aG}{p:dr}(ho:o.op= .load t p)(h:(lF E nm o).val σ=aj e):gD P E σ a w c o e.ws:=by
 simp only[lF,ho]at h;obtain⟨ti,h1,h⟩:=Rd.bind_some h;obtain⟨pv,h2,h⟩:=Rd.bind_some h;obtain⟨xs,h3,h⟩:=Rd.bind_some h;have ht:=dS h1;obtain⟨ep,_⟩:=iJ dD h2;obtain⟨⟨b,of,cs,hv,hl,hcell,hlen,TM⟩,Hc⟩:=Q_ b8 ep h3;have hr:=BD (P:=P) w hE ht hl hcell;refine fP b8 dD hd h (v:=if ti.agg=ak then .agg cs.toArray else cs.headD .nilIface) ?_ (λn hn=>by obtain⟨x,hx,hn⟩:=bG.1 hn;exact Hc x hx n hn) ?_
 ·show pM E w c ti.agg xs _;cases s7:ti.agg with
  |true=>rw[bC rfl];exact⟨cs.toArray,rfl,by simp[hl,hlen],λj x hj=>by obtain⟨u,hu,hx⟩:=TM j x hj;exact⟨u,by simpa using hu,hx⟩⟩
  |false=>
   obtain⟨d,_,_,hn⟩:=hE.desc t ti ht;have h1:ti.ks.length=1:=by rcases hn s7 with ⟨k,h,_⟩|⟨h,_⟩|⟨h,_⟩|⟨e',h,_⟩|⟨h,_⟩<;>simp[h]
   obtain⟨x,rfl⟩:=gF.1 (hlen.trans h1);obtain⟨v,rfl⟩:=gF.1 (hl.trans h1);obtain⟨u,hu,hx⟩:=TM 0 x rfl;simp at hu;subst hu;simpa [pM]using hx
 ·unfold execOp;rw[ho];exact iF (by rw[hv];exact hr)
theorem Fc(hE:eg P E)(b8:Ok E σ w c)(dD:e_ E σ a w c)(hd:∀d,o.dst=aj d->d<a.tmps.size){t f:aG}{p:dr}(ho:o.op= .fieldAddr t p f)(h:(lF E nm o).val σ=aj e):gD P E σ a w c o e.ws:=by
 simp only[lF,ho]at h;obtain⟨pv,h1,h⟩:=Rd.bind_some h;obtain⟨q,h2,h⟩:=Rd.bind_some h;obtain⟨ep,kp⟩:=iJ dD h1;unfold Qg at h2;cases hf:E.fo t f with
 |none=>rw[hf]at h2;simp at h2
 |some r=>
  obtain⟨off,n⟩:=r;rw[hf]at h2;have run:∀b o',a.eval p= .pointer (aj (ad b o'))->(execOp a.eval o).run P w= .ok (.value (.pointer (aj (ad b (o'+off))))) w:=by intro b o' hp;unfold execOp;rw[ho];exact iF (by rw[hp];exact HM (P:=P) w hE hf b o')
  cases pv with
  |bp ig j=>obtain rfl:=aF h2;exact fP b8 dD hd h (s:= .v aq [.bp ig (j+off)]) (v:= .pointer (aj (ad (c.P ig).blk (j+off)))) rfl (λn hn=>kp n (by simpa [cD,bJ]using hn)) (run _ _ ep)
  |rp ig i j=>obtain rfl:=aF h2;refine fP b8 dD hd h (s:= .v aq [.rp ig i (j+off)]) ?_ (λn hn=>kp n (by simpa [cD,bJ]using hn)) (run _ _ ep.2);exact⟨ep.1,by rw[show(c.P ig).off+i*(c.P ig).sz+j+off=(c.P ig).off+i*(c.P ig).sz+(j+off)by omega]⟩
  |sp e2 xs i j=>obtain rfl:=aF h2;obtain⟨b,o',cp,ti,e1,Uz,e3,e4⟩:=ep;refine fP b8 dD hd h (s:= .v aq [.sp e2 xs i (j+off)]) ?_ (λn hn=>by simp[cD,bJ]at hn) (run _ _ e4);exact⟨b,o',cp,ti,e1,Uz,e3,by rw[show o'+i*ti.ks.length+j+off=o'+i*ti.ks.length+(j+off)by omega]⟩
  |ip ig i j i2 j2=>obtain rfl:=aF h2;refine fP b8 dD hd h (s:= .v aq [.ip ig i j i2 (j2+off)]) ?_ (λn hn=>kp n (by simpa [cD,bJ]using hn)) (run _ _ ep.1.2.2);exact⟨⟨ep.1.1,ep.1.2.1,by rw[show(c.G ig i j).off+i2*(c.G ig i j).sz+j2+off=(c.G ig i j).off+i2*(c.G ig i j).sz+(j2+off)by omega]⟩,ep.2⟩
  |fp cs j=>obtain rfl:=aF h2;obtain⟨b,e1,Uz⟩:=ep;exact fP b8 dD hd h (s:= .v aq [.fp cs (j+off)]) ⟨b,rfl,Uz⟩ (λn hn=>by simp[cD,bJ]at hn) (run _ _ e1)
  |i=>simp at h2
  |b=>simp at h2
  |s=>simp at h2
  |sh=>simp at h2
  |nl=>simp at h2
  |own=>simp at h2
  |vw=>simp at h2
  |inn=>simp at h2
  |fn=>simp at h2
theorem JM(b8:Ok E σ w c)(dD:e_ E σ a w c)(hd:∀d,o.dst=aj d->d<a.tmps.size){x:dr}{i:aG}(ho:o.op= .extract x i)(h:(lF E nm o).val σ=aj e):gD P E σ a w c o e.ws:=by
 simp only[lF,ho]at h;obtain⟨v,h1,h⟩:=Rd.bind_some h;obtain⟨ev,kv⟩:=lM dD h1;split at h
 ·rename_i l;split at h
  ·rename_i agg xs hl;obtain⟨vs,e1,e2,e3⟩:=ev;obtain⟨u,hu,hv⟩:=e3 i agg xs hl;refine fP b8 dD hd h (v:=u) hv (λn hn=>kv n (bG.2 ⟨(agg,xs),aQ hl,hn⟩)) ?_;unfold execOp;rw[ho];refine iF ?_;rw[e1];simp only[Instr.extract,hu];rfl
  ·simp at h
 ·simp at h
theorem Wx(b8:Ok E σ w c)(dD:e_ E σ a w c)(hd:∀d,o.dst=aj d->d<a.tmps.size){x:dr}{op:UnOp}{t:aG}(ho:o.op= .unOp op t x)(h:(lF E nm o).val σ=aj e):gD P E σ a w c o e.ws:=by
 simp only[lF,ho]at h;obtain⟨v,h1,h⟩:=Rd.bind_some h;obtain⟨ev,kv⟩:=iJ dD h1;cases op with
 |not=>
  cases v with
  |b b=>refine fP b8 dD hd h (v:= .bool !b) rfl (λn hn=>by simp[cD,bJ]at hn) ?_;unfold execOp;rw[ho];refine iF ?_;rw[show a.eval x= .bool b from ev];rfl
  |_=>simp at h
 |neg=>
  cases v with
  |i k n=>refine fP b8 dD hd h (v:= .int k (k.wrap (0-n))) rfl (λn hn=>by simp[cD,bJ]at hn) ?_;unfold execOp;rw[ho];refine iF ?_;rw[show a.eval x= .int k n from ev];rfl
  |_=>simp at h
 |_=>cases v<;>simp at h
theorem qQ{E:fF}{σ:St}{t:aG}{k:Ck}(h:(pw E t).val σ=aj k):∃ti,E.ty t=aj ti/\ti.agg=aq/\ti.ks=[k]:=by
 obtain⟨ti,h1,h2⟩:=Rd.bind_some h;split at h2
 ·rename_i k' h3 h4;simp at h2;subst h2;exact⟨ti,dS h1,h3,h4⟩
 ·simp at h2
theorem kg{E:fF}{σ:St}(hE:eg P E){t e:aG}(h:(pw E t).val σ=aj (.l e)):P.underlying t=aj (.slice e):=by obtain⟨ti,h1,h2,h3⟩:=qQ h;exact oG hE h1 h2 h3
theorem kJ{E:fF}{σ:St}(hE:eg P E){t:aG}(h:(pw E t).val σ=aj .s):P.underlying t=aj .string:=by obtain⟨ti,h1,h2,h3⟩:=qQ h;obtain⟨d,hd,_,hn⟩:=hE.desc t ti h1;rcases hn h2 with ⟨k,h,_⟩|⟨h,_⟩|⟨h,rfl⟩|⟨e',h,_⟩|⟨h,_⟩<;>rw[h3]at h<;>simp_all
theorem RG(hE:eg P E)(b8:Ok E σ w c)(dD:e_ E σ a w c)(hd:∀d,o.dst=aj d->d<a.tmps.size){x y:dr}{t:aG}(ho:o.op= .index t x y)(h:(lF E nm o).val σ=aj e)(hc:e.cond=ak):gD P E σ a w c o e.ws:=by
 simp only[lF,ho]at h;obtain⟨kk,h0,h⟩:=Rd.bind_some h;obtain⟨v,h1,h⟩:=Rd.bind_some h;obtain⟨⟨k,n⟩,h2,h⟩:=Rd.bind_some h;obtain⟨ev,kv⟩:=iJ dD h1;have ei:=py dD h2;cases kk with
 |s=>cases v with
  |s s=>
   have hu:=kJ hE h0;refine DI b8 dD hd h hc (v:= .int .u8 ((s.data.getD n.toNat 0).toNat:az)) (λ_=>rfl) (s9 rfl) (λhb=> ?_);simp only[aK,bf]at hb;obtain⟨h0,h3⟩:=hb;unfold execOp;rw[ho];refine iF ?_;replace ev:a.eval x= .string s:=ev.1;have jG:n.toNat<s.size:=by omega
   have hg:s[n.toNat]? =aj s[n.toNat]:=by simp[jG]
   have hs:s[n.toNat]=s.data.getD n.toNat 0:=by rw[Array.getD,dif_pos (show n.toNat<s.data.size from jG)];rfl
   simp only[ev,ei,Instr.index,asIntOf,cg,cM,bB,run_underlying hu,h0,if_true,hg,hs]
  |_=>simp at h
 |_=>simp at h
end
end Go.FG

namespace Go.FG
section
variable {P:cR} {E:fF} {σ:St} {a:Act} {w:bF} {c:eO} {o:e8} {nm:aG} {e:rT}
theorem qe{α:Type}{b:aY}{x:α}{σ:St}{r:α}(h:(bif b then Rd.ret x else Rd.fail).val σ=aj r):b=ak/\r=x:=by obtain⟨h1,h2⟩:=cE h;exact⟨h1,(aF h2).symm⟩
theorem eP{p:Pl}(h:p.nil=aq):lh p= .slice (aj (ad p.blk p.off)) p.n p.cap:=by unfold lh;rw[bM (by simp[h])]
theorem mU{p:Pl}(h:p.nil=ak):lh p= .slice ao 0 0:=by unfold lh;rw[bC h]
theorem kL{nm e:aG}{ex:aY}{xs:aW}(b8:Ok E σ w c)(h:σ (cX nm)= .o (.row e ex xs)):
  (c.P nm).n=xs.length/\((c.P nm).nil=ak->xs=[])/\∃ti,E.ty e=aj ti/\(c.P nm).sz=ti.ks.length/\((c.P nm).nil=aq->(c.P nm).n<=(c.P nm).cap/\(c.P nm).cap<=maxLen):=by have mn:=b8.obj nm _ h;obtain⟨ti,h1,h2,_⟩:=mn.sh;exact⟨mn.at_.n,λhn=>(mn.at_.nil hn).1,ti,h1,h2,λhn=>by obtain⟨_,_,h3,h4,_⟩:=mn.at_.mem hn;exact⟨h3,h4⟩⟩
theorem mq{nm e:aG}{xs:aW}(b8:Ok E σ w c)(h:σ (cX nm)= .o (.fI e xs)):
  (c.P nm).n=xs.length/\((c.P nm).nil=ak->xs=[])/\∃ti,E.ty e=aj ti/\(c.P nm).sz=ti.ks.length:=by
 obtain⟨h1,h2,h3⟩:=b8.obj nm _ h;refine⟨h2,λhn=> ?_,h3⟩
 rw[mU hn]at h1;cases h1;rfl
theorem Ff(hE:eg P E)(b8:Ok E σ w c)(dD:e_ E σ a w c)(hd:∀d,o.dst=aj d->d<a.tmps.size){x y:dr}{t:aG}(ho:o.op= .indexAddr t x y)(h:(lF E nm o).val σ=aj e)(hc:e.cond=ak):gD P E σ a w c o e.ws:=by
 simp only[lF,ho]at h;obtain⟨kk,h0,h⟩:=Rd.bind_some h;cases kk with
 |l el=>
  obtain⟨v,h1,h⟩:=Rd.bind_some h;obtain⟨⟨k,n⟩,h2,h⟩:=Rd.bind_some h;obtain⟨⟨b,q⟩,h3,h⟩:=Rd.bind_some h;obtain⟨ev,kv⟩:=iJ dD h1;have ei:=py dD h2;have hu:=kg hE h0;have run:∀te b o' m cp,E.ty el=aj te->a.eval x= .slice (aj (ad b o')) m cp->0<=n->n<(m:az)->(execOp a.eval o).run P w= .ok (.value (.pointer (aj (ad b (o'+n.toNat*te.ks.length))))) w:=by intro te b o' m cp Jw hx h0 h1;unfold execOp;rw[ho];refine iF ?_;rw[hx,ei];exact HN (P:=P) w hE hu Jw b o' m cp k n h0 h1
  cases v with
  |sh e' xs=>
   obtain⟨Cu,h3⟩:=qe h3;obtain⟨rfl,rfl⟩:=bU h3;have:=aX Cu;subst this;obtain rfl:=aF h;have hc:(decide (0<=n)&&decide (n<(xs.length:az)))=true:=hc;simp only[aK,bf]at hc;obtain⟨c0,c1⟩:=hc;have ev:cZ E w c.K (a.eval x) (.l el xs):=ev;generalize hv:a.eval x=v at ev;have ic:0<xs.length:=by omega
   cases ev with
   |nl=>simp at ic
   |l _ _ bb oo cc ti U ht MZ hmx hK hs hcell gQ=>exact gn b8 dD hd (s:= .v aq [.sp el xs n.toNat 0]) (v:= .pointer (aj (ad bb (oo+n.toNat*ti.ks.length)))) ⟨bb,oo,cc,ti, .l el xs bb oo cc ti U ht MZ hmx hK hs hcell gQ,by omega,ht,rfl⟩ (λn hn=>by simp[cD,bJ]at hn) (run ti bb oo _ cc ht hv c0 c1)
  |own ig=>
   obtain⟨ob,hg,h3⟩:=Rd.bind_some h3;have hg:=dt hg;have main:∀(xs:aW),(c.P ig).n=xs.length->((c.P ig).nil=ak->xs=[])->(∃ti,E.ty el=aj ti/\(c.P ig).sz=ti.ks.length)->(b,q)=(decide (0<=n)&&decide (n<(xs.length:az)),AV.rp ig n.toNat 0)->gD P E σ a w c o e.ws:=by
    intro xs hn jg U2 hbq;obtain⟨rfl,rfl⟩:=bU hbq;obtain rfl:=aF h;have hc:(decide (0<=n)&&decide (n<(xs.length:az)))=true:=hc;simp only[aK,bf]at hc;obtain⟨c0,c1⟩:=hc;obtain⟨ti,ht,fX⟩:=U2;have M5:(c.P ig).nil=false:=by
     cases hq:(c.P ig).nil with
     |false=>rfl
     |true=>rw[jg hq]at c1;simp at c1;omega
    have hx:a.eval x= .slice (aj (ad (c.P ig).blk (c.P ig).off)) (c.P ig).n (c.P ig).cap:=by rw[<-eP M5];exact ev
    refine gn b8 dD hd (s:= .v aq [.rp ig n.toNat 0]) (v:= .pointer (aj (ad (c.P ig).blk ((c.P ig).off+n.toNat*ti.ks.length)))) ⟨by omega,by rw[fX];rfl⟩ (λm hm=>by simp[cD,bJ]at hm;subst hm;rw[hg];simp) (run ti _ _ _ _ ht hx c0 (by rw[hn];exact c1))
   cases ob with
   |row e' ex xs=>obtain⟨Cu,h4⟩:=qe h3;have:=aX Cu;subst this;obtain⟨i1,i2,ti,i3,i4,_⟩:=kL b8 hg;exact main xs i1 i2 ⟨ti,i3,i4⟩ h4
   |fI e' xs=>obtain⟨Cu,h4⟩:=qe h3;have:=aX Cu;subst this;obtain⟨i1,i2,i3⟩:=mq b8 hg;exact main xs i1 i2 i3 h4
   |_=>simp at h3
  |vw ig lo hi=>
   obtain⟨ob,hg,h3⟩:=Rd.bind_some h3;have hg:=dt hg;have main:∀(xs:aW),(c.P ig).n=xs.length->(∃ti,E.ty el=aj ti/\(c.P ig).sz=ti.ks.length)->(b,q)=(decide (0<=n)&&decide (n<((hi-lo:aG):az)),AV.rp ig (lo+n.toNat) 0)->gD P E σ a w c o e.ws:=by
    intro xs hn U2 hbq;obtain⟨rfl,rfl⟩:=bU hbq;obtain rfl:=aF h;have hc:(decide (0<=n)&&decide (n<((hi-lo:aG):az)))=true:=hc;simp only[aK,bf]at hc;obtain⟨c0,c1⟩:=hc;obtain⟨ti,ht,fX⟩:=U2;obtain⟨v1,v2,v3,v4⟩:=ev;have M5:(c.P ig).nil=false:=by
     cases hq:(c.P ig).nil with
     |false=>rfl
     |true=>
      obtain⟨f1,_⟩:(c.P ig).n=0/\True:=by
       have mn:=b8.obj ig _ hg;rw[hn];cases ob with
       |row e' ex ys=>obtain⟨j1,j2,_⟩:=kL b8 hg;rw[<-hn,j1,j2 hq];simp
       |fI e' ys=>obtain⟨j1,j2,_⟩:=mq b8 hg;rw[<-hn,j1,j2 hq];simp
       |_=>simp at h3
      omega
    rcases v4 M5 with ⟨u1,hx⟩|⟨u1,oo,u2,hx⟩
    ·refine gn b8 dD hd (s:= .v aq [.rp ig (lo+n.toNat) 0]) (v:= .pointer (aj (ad (c.P ig).blk ((c.P ig).off+lo*(c.P ig).sz+n.toNat*ti.ks.length)))) ⟨by omega, ?_⟩ (λm hm=>by simp[cD,bJ]at hm;subst hm;rw[hg];simp) (run ti _ _ _ _ ht hx c0 c1);rw[<-fX,show(c.P ig).off+(lo+n.toNat)*(c.P ig).sz+0=(c.P ig).off+lo*(c.P ig).sz+n.toNat*(c.P ig).sz by rw[dc];omega]
    ·exfalso;have MZ:(c.P ig).n<=(c.P ig).cap:=by
      cases ob with
      |row e' ex ys=>obtain⟨_,_,_,_,_,j⟩:=kL b8 hg;exact(j M5).1
      |fI e' ys=>
       obtain⟨j1,j2,_⟩:=b8.obj ig _ hg;rw[eP M5]at j1;by_cases hz:0<ys.length
       ·obtain⟨t3,U,L⟩:=j1.Hr hz;rw[j2];exact L.cap
       ·omega
      |_=>simp at h3
     omega
   cases ob with
   |row e' ex xs=>obtain⟨Cu,h4⟩:=qe h3;have:=aX Cu;subst this;obtain⟨i1,i2,ti,i3,i4,_⟩:=kL b8 hg;exact main xs i1 ⟨ti,i3,i4⟩ h4
   |fI e' xs=>obtain⟨Cu,h4⟩:=qe h3;have:=aX Cu;subst this;obtain⟨i1,i2,i3⟩:=mq b8 hg;exact main xs i1 i3 h4
   |_=>simp at h3
  |inn ig i j=>
   obtain⟨ob,hg,h3⟩:=Rd.bind_some h3;have hg:=dt hg;cases ob with
   |row e' ex xs=>
    cases ex with
    |false=>simp at h3
    |true=>
     obtain⟨te,ht,h3⟩:=Rd.bind_some h3;have ht:=dS ht;split at h3
     ·rename_i e2 zp;obtain⟨Cu,h3⟩:=qe h3;obtain⟨rfl,rfl⟩:=bU h3;have:=aX Cu;subst this;obtain rfl:=aF h;obtain⟨⟨lK,hx⟩,hFv⟩:=ev;obtain⟨⟨tj,htj,fX,ma⟩,fW,_⟩:=b8.obj ig _ hg;obtain rfl:te=tj:=aF (ht.symm.trans htj);obtain⟨zs,y',hy,hyj,uu,_,tk,E2,ry,Jv,Cy,n8⟩:=tq (c:=c) fW ma lK zp;have hc:(decide (0<=n)&&decide (n<((jx (aw xs i j)).length:az)))=true:=hc;rw[fc hy hyj]at hc;simp only[aK,bf]at hc;obtain⟨c0,c1⟩:=hc;have c1:n<(zs.length:az):=c1;have M5:(c.G ig i j).nil=false:=by
       cases hq:(c.G ig i j).nil with
       |false=>rfl
       |true=>have:=(n8.nil hq).1;subst this;simp at c1;omega
      rw[eP M5]at hx;refine gn b8 dD hd (s:= .v aq [.ip ig i j n.toNat 0]) (v:= .pointer (aj (ad (c.G ig i j).blk ((c.G ig i j).off+n.toNat*tk.ks.length)))) ⟨⟨lK,by rw[n8.n];omega,by rw[Jv];rfl⟩,hFv⟩ (λm hm=>by simp[cD,bJ]at hm;subst hm;rw[hg];simp) (run tk _ _ _ _ E2 hx c0 (by rw[n8.n];exact c1))
     ·simp at h3
   |_=>simp at h3
  |_=>simp[QN]at h3
 |_=>simp at h
end
end Go.FG

namespace Go.FG
section
variable {P:cR} {E:fF} {σ:St} {a:Act} {w:bF} {c:eO} {o:e8} {nm:aG} {e:rT}
theorem zT(dD:e_ E σ a w c){x:aC dr}{d n:az}(h:(nE x d).val σ=aj n):(x=ao/\n=d)\/∃y k,x=aj y/\a.eval y= .int k n:=by
 cases x with
 |none=>exact .inl ⟨rfl,(aF h).symm⟩
 |some y=>obtain⟨⟨k,m⟩,h1,h2⟩:=Rd.bind_some h;obtain rfl:=aF h2;exact .inr ⟨y,k,rfl,py dD h1⟩
theorem DE{x:bg}{k:mH}{n:az}{y:aG}{code:BoundsCode}(hx:x= .int k n)(h0:0<=n)(h1:n<=y):(qs x y code).run P w= .ok n.toNat w:=by subst hx;simp only[qs,asIntOf,cg,cM,bB,h0,h1,and_self,if_true]
theorem BA(dD:e_ E σ a w c){isS:aY}{len cap:aG}{lo hi:aC dr}{l h:az}(hl:(nE lo 0).val σ=aj l)(hh:(nE hi len).val σ=aj h)(h0:0<=l)(h1:l<=h)(h2:h<=cap):
  (mw isS len cap (lo.map a.eval) (hi.map a.eval) ao).run P w= .ok (l.toNat,h.toNat,cap) w:=by
 have low:∀v,lo=aj v->∀code,(qs (a.eval v) h.toNat code).run P w= .ok l.toNat w:=by
  intro v hv code;rcases zT dD hl with ⟨hx,_⟩|⟨y,k,hx,hy⟩
  ·rw[hx]at hv;cases hv
  ·rw[hx]at hv;cases hv;exact DE hy h0 (by omega)
 have high:∀v,hi=aj v->∀code,(qs (a.eval v) cap code).run P w= .ok h.toNat w:=by
  intro v hv code;rcases zT dD hh with ⟨hx,_⟩|⟨y,k,hx,hy⟩
  ·rw[hx]at hv;cases hv
  ·rw[hx]at hv;cases hv;exact DE hy (by omega) h2
 have l0:lo=ao->l=0:=λhx=>by rcases zT dD hl with ⟨_,hn⟩|⟨y,k,hy,_⟩;exact hn;rw[hx]at hy;cases hy
 have TK:hi=ao->h=len:=λhx=>by rcases zT dD hh with ⟨_,hn⟩|⟨y,k,hy,_⟩;exact hn;rw[hx]at hy;cases hy
 cases lo with
 |none=>
  obtain rfl:=l0 rfl;cases hi with
  |none=>obtain rfl:=TK rfl;simp[mw]
  |some v=>simp[mw,high v rfl]
 |some u=>
  cases hi with
  |none=>obtain rfl:=TK rfl;have:=low u rfl;simp only[dA]at this;simp[mw,this]
  |some v=>simp[mw,high v rfl,low u rfl]
theorem JX{t:aG}(hu:P.underlying t=aj .string)(dD:e_ E σ a w c){lo hi:aC dr}{l h:az}{s:au}(hl:(nE lo 0).val σ=aj l)(hh:(nE hi s.size).val σ=aj h)(h0:0<=l)(h1:l<=h)(h2:h<=(s.size:az)):
  (pU t (.string s) (lo.map a.eval) (hi.map a.eval) ao).run P w= .ok (.string (s.extract l.toNat h.toNat)) w:=by simp only[pU,Instr.slice,cg,run_underlying hu,bB,Option.isSome_none,dp,if_false,BA (P:=P) dD hl hh h0 h1 h2,cM]
theorem kj{t el:aG}{te:TI}(hE:eg P E)(hu:P.underlying t=aj (.slice el))(he:E.ty el=aj te)(dD:e_ E σ a w c){lo hi:aC dr}{l h:az}{A:aC Addr}{n cp:aG}(hl:(nE lo 0).val σ=aj l)(hh:(nE hi n).val σ=aj h)(h0:0<=l)(h1:l<=h)(h2:h<=(cp:az)):
  (pU t (.slice A n cp) (lo.map a.eval) (hi.map a.eval) ao).run P w= .ok (.slice (if cp=l.toNat then A else A.map (·.add (l.toNat*te.ks.length))) (h.toNat-l.toNat) (cp-l.toNat)) w:=by obtain⟨inf,lD,fX,_⟩:=hE.info el te he;simp only[pU,Instr.slice,cg,run_underlying hu,bB,BA (P:=P) dD hl hh h0 h1 h2,sizeOf,typeInfo,program,mI,lD,fX,cM]
theorem sO{xs:aW}{lo hi i:aG}:(eT xs lo hi)[i]? =if i<hi-lo then xs[lo+i]? else none:=by unfold eT;rw[dV];split<;>simp[dM]
theorem lR{xs:aW}{lo hi:aG}(h:hi<=xs.length):(eT xs lo hi).length=hi-lo:=by unfold eT;simp;omega
theorem Bc{xs:aW}{lo hi:aG}{y:aA CV}(h:y∈eT xs lo hi):y∈xs:=kD (kE h)
theorem aak{K:aG->Prop}{v:bg}{el:aG}{xs:aW}{te:TI}(he:E.ty el=aj te)(h:cZ E w K v (.l el xs)){lo hi:aG}(h1:lo<=hi)(h2:hi<=xs.length):
  ∃A n cp,v= .slice A n cp/\n=xs.length/\n<=cp\/∃A cp,v= .slice A 0 cp/\xs=[]:=by
 cases h with
 |nl=>exact⟨ao,0,0, .inr ⟨_,_,rfl,rfl⟩⟩
 |l _ _ b oo cp ti U ht hc=>exact⟨_,_,_, .inl ⟨rfl,rfl,hc⟩⟩
theorem Dp{K:aG->Prop}{A:aC Addr}{n cp el:aG}{xs:aW}{te:TI}(he:E.ty el=aj te)(h:cZ E w K (.slice A n cp) (.l el xs)){lo hi:aG}(h1:lo<=hi)(h2:hi<=xs.length):
  n=xs.length/\cZ E w K (.slice (if cp=lo then A else A.map (·.add (lo*te.ks.length))) (hi-lo) (cp-lo)) (.l el (eT xs lo hi)):=by
 generalize hv:Value.slice A n cp=v at h;generalize hx:CV.l el xs=x at h;cases h with
 |i=>cases hx
 |b=>cases hx
 |s=>cases hx
 |nl=>
  cases hx;cases hv;have:hi=0:=by simpa using h2
  subst this;have:lo=0:=by omega
  subst this;exact⟨rfl, .nl _ _ _⟩
 |l _ _ b oo cp ti U ht hc hm hK hs hcell gQ=>
  cases hx;cases hv;refine⟨rfl, ?_⟩
  obtain rfl:te=ti:=aF (he.symm.trans ht);by_cases hz:hi-lo=0
  ·rw[hz];have:eT xs lo hi=[]:=by unfold eT;rw[hz];simp
   rw[this];exact .nl _ _ _
  ·rw[bM (by omega)];simp only[iS,Addr.nA];have hl:=lR (xs:=xs) (lo:=lo) h2;rw[<-hl];refine .l el (eT xs lo hi) b (oo+lo*te.ks.length) (cp-lo) te (λi j=>U (lo+i) j) ht (by rw[hl];omega) (by omega) hK (λy hy=>hs y (Bc hy)) (λi j y x lD hj=> ?_) (λi j y x lD hj=> ?_)
   ·rw[sO]at lD;split at lD
    ·have:=hcell (lo+i) j y x lD hj;rw[<-this];congr 2;rw[dc];omega
    ·cases lD
   ·rw[sO]at lD;split at lD
    ·exact gQ (lo+i) j y x lD hj
    ·cases lD
theorem RH(hE:eg P E)(b8:Ok E σ w c)(dD:e_ E σ a w c)(hd:∀d,o.dst=aj d->d<a.tmps.size){x:dr}{t:aG}{lo hi mx:aC dr}(ho:o.op= .slice t x lo hi mx)(h:(lF E nm o).val σ=aj e)(hc:e.cond=ak):gD P E σ a w c o e.ws:=by
 simp only[lF,ho]at h;cases mx with
 |some m=>simp at h
 |none=>
 obtain⟨kk,hk,h⟩:=Rd.bind_some h;obtain⟨v,h1,h⟩:=Rd.bind_some h;obtain⟨⟨b,q⟩,h3,h⟩:=Rd.bind_some h;obtain⟨ev,kv⟩:=iJ dD h1;have exec:∀{u r:bg},a.eval x=u->(pU t u (lo.map a.eval) (hi.map a.eval) ao).run P w= .ok r w->(execOp a.eval o).run P w= .ok (.value r) w:=by intro u r hu hr;unfold execOp;rw[ho];exact iF (by rw[hu];exact hr)
 cases kk with
 |s=>cases v with
  |s s=>have hu:=kJ hE hk;obtain⟨l,hl,h3⟩:=Rd.bind_some h3;obtain⟨hh,zo,h3⟩:=Rd.bind_some h3;obtain⟨rfl,rfl⟩:=bU (aF h3);obtain rfl:=aF h;have hc:iQ l hh s.size=true:=hc;simp only[iQ,aK,bf]at hc;obtain⟨⟨c0,c1⟩,c2⟩:=hc;exact gn b8 dD hd (s:= .v aq [.s _]) (v:= .string _) ⟨rfl,by have h5:=ev.2;unfold F2 at h5⊢;rw[wz];omega⟩ (λn hn=>by simp[cD,bJ]at hn) (exec ev.1 (JX (P:=P) hu dD hl zo c0 c1 c2))
  |_=>simp[J4]at h3
 |l el=>
  have hu:=kg hE hk;obtain⟨te,Jw,h3⟩:=Rd.bind_some h3;have Jw:=dS Jw;cases v with
  |sh e' xs=>
   obtain⟨Cu,h4⟩:=cE h3;have:=aX Cu;subst this;obtain⟨l,hl,h4⟩:=Rd.bind_some h4;obtain⟨hh,zo,h4⟩:=Rd.bind_some h4;obtain⟨rfl,rfl⟩:=bU (aF h4);obtain rfl:=aF h;have hc:iQ l hh xs.length=true:=hc;simp only[iQ,aK,bf]at hc;obtain⟨⟨c0,c1⟩,c2⟩:=hc;have ev:cZ E w c.K (a.eval x) (.l el xs):=ev;generalize hv:a.eval x=v at ev;cases ev with
   |nl _ A cp=>
    have h0:hh=0:=by simp at c2;omega
    have l0:l=0:=by omega
    subst h0;subst l0;have hr:=kj (P:=P) (te:=te) hE hu Jw dD (A:=A) (n:=0) (cp:=cp) hl zo (by omega) (by omega) (by omega);exact gn b8 dD hd (s:= .v aq [.sh el (eT [] (0:az).toNat (0:az).toNat)]) (.nl _ _ _) (λn hn=>by simp[cD,bJ]at hn) (exec hv hr)
   |l _ _ bb oo cp ti U ht MZ hmx hK hs hcell gQ=>have hr:=kj (P:=P) (te:=ti) hE hu ht dD (A:=aj (ad bb oo)) (cp:=cp) hl zo c0 c1 (by omega);have amt:=(Dp (lo:=l.toNat) (hi:=hh.toNat) ht (.l el xs bb oo cp ti U ht MZ hmx hK hs hcell gQ) (by omega) (by omega)).2;exact gn b8 dD hd (s:= .v aq [.sh el (eT xs l.toNat hh.toNat)]) amt (λn hn=>by simp[cD,bJ]at hn) (exec hv hr)
  |own ig=>
   obtain⟨ob,hg,h3⟩:=Rd.bind_some h3;have hg:=dt hg
   have main:∀(xs:aW),(c.P ig).n=xs.length->((c.P ig).nil=ak->xs=[])->(∃ti,E.ty el=aj ti/\(c.P ig).sz=ti.ks.length)->((c.P ig).nil=aq->(c.P ig).n<=(c.P ig).cap)->
     ((nE lo 0).bind λl=>(nE hi xs.length).bind λh=>Rd.ret (iQ l h xs.length,AV.vw ig l.toNat h.toNat)).val σ=aj (b,q)->gD P E σ a w c o e.ws:=by
    intro xs hn jg U2 hcp h4
    obtain⟨l,hl,h4⟩:=Rd.bind_some h4
    obtain⟨hh,zo,h4⟩:=Rd.bind_some h4
    obtain⟨rfl,rfl⟩:=bU (aF h4)
    obtain rfl:=aF h
    have hc:iQ l hh xs.length=true:=hc
    simp only[iQ,aK,bf]at hc
    obtain⟨⟨c0,c1⟩,c2⟩:=hc
    obtain⟨ti,ht,fX⟩:=U2
    have ev:a.eval x=lh (c.P ig):=ev
    cases hq:(c.P ig).nil with
    |true=>
     rw[mU hq]at ev;have hx:=jg hq;subst hx;have h0:hh=0:=by simp at c2;omega
     have l0:l=0:=by omega
     subst h0;subst l0;have hr:=kj (P:=P) (te:=ti) hE hu ht dD (A:=ao) (n:=0) (cp:=0) hl zo (by omega) (by omega) (by simp);refine gn b8 dD hd (s:= .v aq [.vw ig 0 0]) (v:= .slice ao 0 0) ⟨cu _,bL _,λ_=>rfl,λhf=>by rw[hq]at hf;cases hf⟩ (λm hm=>by simp[cD,bJ]at hm;subst hm;rw[hg];simp) (exec ev (by simpa using hr))
    |false=>
     rw[eP hq]at ev;have hcp:=hcp hq;have hr:=kj (P:=P) (te:=ti) hE hu ht dD (A:=aj (ad (c.P ig).blk (c.P ig).off)) (n:=(c.P ig).n) (cp:=(c.P ig).cap) hl (by rw[hn];exact zo) c0 c1 (by omega);refine gn b8 dD hd (s:= .v aq [.vw ig l.toNat hh.toNat]) ⟨by omega,by omega,λhf=>(by rw[hq]at hf;cases hf),λ_=> ?_⟩ (λm hm=>by simp[cD,bJ]at hm;subst hm;rw[hg];simp) (exec ev hr);by_cases hle:(c.P ig).cap=l.toNat
     ·refine .inr ⟨hle.symm,(c.P ig).off,by omega, ?_⟩;rw[bC hle,show hh.toNat-l.toNat=0 by omega,show(c.P ig).cap-l.toNat=0 by omega]
     ·refine .inl ⟨by omega, ?_⟩;rw[bM hle];simp only[iS,Addr.nA,fX]
   cases ob with
   |row e' ex xs=>obtain⟨Cu,h4⟩:=cE h3;have:=aX Cu;subst this;obtain⟨i1,i2,ti,i3,i4,i5⟩:=kL b8 hg;exact main xs i1 i2 ⟨ti,i3,i4⟩ (λh=>(i5 h).1) h4
   |fI e' xs=>
    obtain⟨Cu,h4⟩:=cE h3;have:=aX Cu;subst this;obtain⟨i1,i2,i3⟩:=mq b8 hg;refine main xs i1 i2 i3 (λM5=> ?_) h4;obtain⟨j1,j2,_⟩:=b8.obj ig _ hg;rw[eP M5]at j1;by_cases hz:0<xs.length
    ·obtain⟨t3,U,L⟩:=j1.Hr hz;rw[j2];exact L.cap
    ·omega
   |_=>simp at h3
  |vw ig CC EY=>
   obtain⟨ob,hg,h3⟩:=Rd.bind_some h3;have hg:=dt hg
   have main:(∃ti,E.ty el=aj ti/\(c.P ig).sz=ti.ks.length)->((c.P ig).nil=ak->(c.P ig).n=0)->((c.P ig).nil=aq->(c.P ig).n<=(c.P ig).cap)->
     ((nE lo 0).bind λl=>(nE hi ((EY-CC:aG):az)).bind λh=>Rd.ret (iQ l h ((EY-CC:aG):az),AV.vw ig (CC+l.toNat) (CC+h.toNat))).val σ=aj (b,q)->gD P E σ a w c o e.ws:=by
    intro U2 jg hcp h4
    obtain⟨l,hl,h4⟩:=Rd.bind_some h4
    obtain⟨hh,zo,h4⟩:=Rd.bind_some h4
    obtain⟨rfl,rfl⟩:=bU (aF h4)
    obtain rfl:=aF h
    have hc:iQ l hh ((EY-CC:aG):az)=true:=hc
    simp only[iQ,aK,bf]at hc
    obtain⟨⟨c0,c1⟩,c2⟩:=hc
    obtain⟨ti,ht,fX⟩:=U2
    obtain rfl:te=ti:=aF (Jw.symm.trans ht)
    obtain⟨v1,v2,v3,v4⟩:=ev
    cases hq:(c.P ig).nil with
    |true=>
     have hz:=jg hq;have ex:=v3 hq;have hi0:EY=0:=by omega
     have lo0:CC=0:=by omega
     subst hi0;subst lo0;have h0:hh=0:=by simp at c2;omega
     have l0:l=0:=by omega
     subst h0;subst l0;have hr:=kj (P:=P) (te:=te) hE hu ht dD (A:=ao) (n:=0) (cp:=0) hl (by simpa using zo) (by omega) (by omega) (by simp);refine gn b8 dD hd (s:= .v aq [.vw ig (0+(0:az).toNat) (0+(0:az).toNat)]) (v:= .slice ao 0 0) ⟨cu _,bL _,λ_=>rfl,λhf=>by rw[hq]at hf;cases hf⟩ (λm hm=>by simp[cD,bJ]at hm;subst hm;rw[hg];simp) (exec ex (by simpa using hr))
    |false=>
     have hcp:=hcp hq;rcases v4 hq with ⟨u1,ex⟩|⟨u1,oo,u2,ex⟩
     ·have hr:=kj (P:=P) (te:=te) hE hu ht dD (A:=aj (ad (c.P ig).blk ((c.P ig).off+CC*(c.P ig).sz))) (n:=EY-CC) (cp:=(c.P ig).cap-CC) hl zo c0 c1 (by omega);refine gn b8 dD hd (s:= .v aq [.vw ig (CC+l.toNat) (CC+hh.toNat)]) ⟨by omega,by omega,λhf=>(by rw[hq]at hf;cases hf),λ_=> ?_⟩ (λm hm=>by simp[cD,bJ]at hm;subst hm;rw[hg];simp) (exec ex hr);by_cases hle:(c.P ig).cap-CC=l.toNat
      ·refine .inr ⟨by omega,(c.P ig).off+CC*(c.P ig).sz, ?_, ?_⟩
       ·have:=b7 (c.P ig).sz (Nat.le_of_lt u1);omega
       ·rw[bC hle,show hh.toNat-l.toNat=0 by omega,show(c.P ig).cap-CC-l.toNat=0 by omega]
      ·refine .inl ⟨by omega, ?_⟩;rw[bM hle];simp only[iS,Addr.nA,fX];rw[show CC+hh.toNat-(CC+l.toNat)=hh.toNat-l.toNat by omega,show(c.P ig).cap-(CC+l.toNat)=(c.P ig).cap-CC-l.toNat by omega,dc,lB]
     ·have hr:=kj (P:=P) (te:=te) hE hu ht dD (A:=aj (ad (c.P ig).blk oo)) (n:=0) (cp:=0) hl (by rw[show EY-CC=0 by omega]at zo;exact zo) c0 c1 (by omega);have h0:hh=0:=by omega
      have l0:l=0:=by omega
      subst h0;subst l0;refine gn b8 dD hd (s:= .v aq [.vw ig (CC+(0:az).toNat) (CC+(0:az).toNat)]) (v:= .slice (aj (ad (c.P ig).blk oo)) 0 0) ⟨cu _,by simp;omega,λhf=>(by rw[hq]at hf;cases hf),λ_=> .inr ⟨by simpa using u1,oo,u2,rfl⟩⟩ (λm hm=>by simp[cD,bJ]at hm;subst hm;rw[hg];simp) (exec ex (by simpa using hr))
   cases ob with
   |row e' ex xs=>obtain⟨Cu,h4⟩:=cE h3;have:=aX Cu;subst this;obtain⟨i1,i2,ti,i3,i4,i5⟩:=kL b8 hg;exact main ⟨ti,i3,i4⟩ (λhn=>by rw[i1,i2 hn];rfl) (λh=>(i5 h).1) h4
   |fI e' xs=>
    obtain⟨Cu,h4⟩:=cE h3;have:=aX Cu;subst this;obtain⟨i1,i2,i3⟩:=mq b8 hg;refine main i3 (λhn=>by rw[i1,i2 hn];rfl) (λM5=> ?_) h4;obtain⟨j1,j2,_⟩:=b8.obj ig _ hg;rw[eP M5]at j1;by_cases hz:0<xs.length
    ·obtain⟨t3,U,L⟩:=j1.Hr hz;rw[j2];exact L.cap
    ·omega
   |_=>simp at h3
  |nl=>
   obtain⟨l,hl,h4⟩:=Rd.bind_some h3;obtain⟨hh,zo,h4⟩:=Rd.bind_some h4;obtain⟨rfl,rfl⟩:=bU (aF h4);obtain rfl:=aF h;have hc:iQ l hh 0=true:=hc;simp only[iQ,aK,bf]at hc;obtain⟨⟨c0,c1⟩,c2⟩:=hc;have h0:hh=0:=by omega
   have l0:l=0:=by omega
   subst h0;subst l0;have hr:=kj (P:=P) (te:=te) hE hu Jw dD (A:=ao) (n:=0) (cp:=0) hl zo (by omega) (by omega) (by simp);exact gn b8 dD hd (s:= .v aq [.nl]) (v:= .slice ao 0 0) rfl (λn hn=>by simp[cD,bJ]at hn) (exec ev (by simpa using hr))
  |_=>simp[Sl]at h3
 |_=>simp[J4]at h3
end
end Go.FG

namespace Go.FG
section
variable {P:cR} {E:fF} {σ:St} {a:Act} {w:bF} {c:eO} {o:e8} {nm:aG} {e:rT}
theorem NB(b8:Ok E σ w c){x:AV}{v:bg}(hx:ej E w c x v){el:aG}{xs:aW}(h:(lU E x).val σ=aj (el,xs)):∃A cp,v= .slice A xs.length cp:=by
 cases x with
 |sh e' ys=>
  obtain⟨rfl,rfl⟩:=bU (aF h);have hx:cZ E w c.K v (.l e' ys):=hx;cases hx with
  |nl=>exact⟨_,_,rfl⟩
  |l=>exact⟨_,_,rfl⟩
 |own n=>
  obtain⟨ob,hg,h⟩:=Rd.bind_some h;have hg:=dt hg;have hx:v=lh (c.P n):=hx;have main:∀ys:aW,(c.P n).n=ys.length->((c.P n).nil=ak->ys=[])->∃A cp,v= .slice A ys.length cp:=by
   intro ys h1 h2;cases hq:(c.P n).nil with
   |true=>rw[hx,mU hq,h2 hq];exact⟨_,_,rfl⟩
   |false=>rw[hx,eP hq,h1];exact⟨_,_,rfl⟩
  cases ob with
  |row e' ex ys=>obtain⟨rfl,rfl⟩:=bU (aF h);obtain⟨i1,i2,_⟩:=kL b8 hg;exact main _ i1 i2
  |fI e' ys=>obtain⟨rfl,rfl⟩:=bU (aF h);obtain⟨i1,i2,_⟩:=mq b8 hg;exact main _ i1 i2
  |_=>simp at h
 |vw n lo hi=>
  obtain⟨ob,hg,h⟩:=Rd.bind_some h;have hg:=dt hg;obtain⟨v1,v2,v3,v4⟩:=hx;have main:∀ys:aW,(c.P n).n=ys.length->((c.P n).nil=ak->ys=[])->((c.P n).nil=aq->(c.P n).n<=(c.P n).cap)->∃A cp,v= .slice A (eT ys lo hi).length cp:=by
   intro ys h1 h2 h3;rw[lR (by omega)];cases hq:(c.P n).nil with
   |true=>have:=h2 hq;subst this;rw[v3 hq,show hi-lo=0 by simp at h1;omega];exact⟨_,_,rfl⟩
   |false=>
    rcases v4 hq with ⟨_,h⟩|⟨u1,oo,_,h⟩
    ·rw[h];exact⟨_,_,rfl⟩
    ·have:=h3 hq;rw[h,show hi-lo=0 by omega];exact⟨_,_,rfl⟩
  cases ob with
  |row e' ex ys=>obtain⟨rfl,rfl⟩:=bU (aF h);obtain⟨i1,i2,ti,_,_,i5⟩:=kL b8 hg;exact main _ i1 i2 (λh=>(i5 h).1)
  |fI e' ys=>
   obtain⟨rfl,rfl⟩:=bU (aF h);obtain⟨i1,i2,_⟩:=mq b8 hg;refine main _ i1 i2 (λM5=> ?_);obtain⟨j1,j2,_⟩:=b8.obj n _ hg;rw[eP M5]at j1;by_cases hz:0<ys.length
   ·obtain⟨t3,U,L⟩:=j1.Hr hz;rw[j2];exact L.cap
   ·omega
  |_=>simp at h
 |inn n i j=>
  obtain⟨ob,hg,h⟩:=Rd.bind_some h;have hg:=dt hg;cases ob with
  |row e' ex ys=>
   cases ex with
   |false=>simp at h
   |true=>
   obtain⟨te,ht,h⟩:=Rd.bind_some h;have ht:=dS ht;split at h
   ·rename_i e2 zp;obtain⟨rfl,rfl⟩:=bU (aF h);obtain⟨⟨lK,hx⟩,_⟩:=hx;obtain⟨⟨tj,htj,fX,ma⟩,fW,_⟩:=b8.obj n _ hg;obtain rfl:te=tj:=aF (ht.symm.trans htj);obtain⟨zs,y',hy,hyj,uu,_,tk,E2,ry,Jv,Cy,n8⟩:=tq (c:=c) fW ma lK zp;rw[fc hy hyj];cases hq:(c.G n i j).nil with
    |true=>rw[hx,mU hq,show jx (.l e2 zs)=zs from rfl,(n8.nil hq).1];exact⟨_,_,rfl⟩
    |false=>rw[hx,eP hq,n8.n];exact⟨_,_,rfl⟩
   ·simp at h
  |_=>simp at h
 |_=>simp[lU]at h
theorem mj{cl:Call}{b:Builtin}(ho:o.op= .call cl)(hb:cl.callee= .builtin b):
  ∃cs,(execOp a.eval o).run P w=(builtin b cl.argTypes o.type cs (cl.args.map a.eval)).run P w:=by unfold execOp;rw[ho];simp only[resolve,hb,cg,cM,bB,invoke];exact⟨_,rfl⟩
theorem mS{α:Type}{x:di α}{y:α}(h:x.toList=[y]):x= #[y]:=by apply rE;simpa using h
theorem BK{α:Type}{x:di α}{y z:α}(h:x.toList=[y,z]):x= #[y,z]:=by apply rE;simpa using h
theorem acu(hE:eg P E)(b8:Ok E σ w c)(dD:e_ E σ a w c)(hd:∀d,o.dst=aj d->d<a.tmps.size){cl:Call}(ho:o.op= .call cl)(hb:cl.callee= .builtin .len)(h:(lF E nm o).val σ=aj e):gD P E σ a w c o e.ws:=by
 simp only[lF,ho,hb]at h;split at h
 ·rename_i x t hx ht;obtain⟨k,hk,h⟩:=Rd.bind_some h;obtain⟨v,h1,h⟩:=Rd.bind_some h;obtain⟨n,h2,h⟩:=Rd.bind_some h;obtain⟨ev,kv⟩:=iJ dD h1;have hx:=mS hx;have ht:=mS ht;have exec:∀r,(va #[t] o.type #[a.eval x]).run P w= .ok r w->(execOp a.eval o).run P w= .ok (.value r) w:=by intro r hr;obtain⟨cs,FW⟩:=mj (P:=P) (a:=a) (w:=w) ho hb;rw[FW,hx,ht];simp only[builtin,Ca,e9,Ao];exact iF hr
  have fin:∀m:aG,n=m->(va #[t] o.type #[a.eval x]).run P w= .ok (goInt m) w->gD P E σ a w c o e.ws:=by intro m hm hr;subst hm;exact fP b8 dD hd h (v:=goInt m) rfl (λn hn=>by simp[cD,bJ]at hn) (exec _ hr)
  cases k with
  |s=>cases v with
   |s s=>obtain rfl:=aF h2;have ev:a.eval x= .string s:=ev.1;exact fin s.size rfl (by rw[ev];simp[va,run_underlying (kJ hE hk)])
   |_=>simp[abX]at h2
  |l el=>
   have hu:=kg hE hk;have sl:∀A (m:aG) cp,a.eval x= .slice A m cp->n=m->gD P E σ a w c o e.ws:=by intro A m cp hv hn;exact fin m hn (by rw[hv];simp[va,run_underlying hu])
   have gen:∀(el':aG) (xs:aW),(lU E v).val σ=aj (el',xs)->n=xs.length->gD P E σ a w c o e.ws:=by intro el' xs hr hn;obtain⟨A,cp,hv⟩:=NB b8 ev hr;exact sl _ _ _ hv hn
   cases v with
   |nl=>obtain rfl:=aF h2;exact sl ao 0 0 ev rfl
   |vw m lo hi=>
    obtain⟨ob,hg,h2⟩:=Rd.bind_some h2;have hg:=dt hg;have r1:∃(e1:aG) (ys:aW),(lU E (.vw m lo hi)).val σ=aj (e1,eT ys lo hi)/\(c.P m).n=ys.length/\n=((hi-lo:aG):az):=by
     cases ob with
     |row e1 ex ys=>exact⟨e1,ys,by simp[lU,jq,hg],(kL b8 hg).1,(aF h2).symm⟩
     |fI e1 ys=>exact⟨e1,ys,by simp[lU,jq,hg],(mq b8 hg).1,(aF h2).symm⟩
     |_=>simp at h2
    obtain⟨e1,ys,h5,h6,h7⟩:=r1;refine gen e1 _ h5 ?_;rw[lR (by have:=ev.2.1;omega)];exact h7
   |_=>obtain⟨⟨el',xs⟩,hr,h3⟩:=Rd.bind_some h2;obtain rfl:=aF h3;exact gen el' xs hr rfl
  |_=>simp[abX]at h2
 ·simp at h
end
end Go.FG

namespace Go.FG
section
variable {P:cR} {E:fF} {σ:St} {a:Act} {w:bF} {c:eO} {o:e8} {nm:aG} {e:rT}
theorem x_{α:Type}{x:aC α}{σ:St}{r:α}(h:(RN x).val σ=aj r):x=aj r:=by
 cases x with
 |none=>simp[RN]at h
 |some y=>exact h
theorem acs(hE:eg P E)(b8:Ok E σ w c)(dD:e_ E σ a w c)(hd:∀d,o.dst=aj d->d<a.tmps.size){cl:Call}(ho:o.op= .call cl)(hb:cl.callee= .builtin .cap)(h:(lF E nm o).val σ=aj e):gD P E σ a w c o e.ws:=by
 simp only[lF,ho,hb]at h;split at h
 ·rename_i x t hx ht;obtain⟨k,hk,h⟩:=Rd.bind_some h;have hx:=mS hx;have ht:=mS ht;cases k with
  |l el=>
   obtain⟨v,h1,h⟩:=Rd.bind_some h;obtain⟨ev,kv⟩:=iJ dD h1;have hu:=kg hE hk;cases v with
   |nl=>refine fP b8 dD hd h (v:=goInt 0) rfl (λn hn=>by simp[cD,bJ]at hn) ?_;obtain⟨cs,FW⟩:=mj (P:=P) (a:=a) (w:=w) ho hb;rw[FW,hx,ht];simp only[builtin,Ca,e9,Ao];refine iF ?_;rw[show a.eval x= .slice ao 0 0 from ev];simp[Builtin.cap_,run_underlying hu]
   |_=>simp at h
  |_=>simp at h
 ·simp at h
theorem JE(dD:e_ E σ a w c)(mx:aY):∀(r:aA dr) (k:mH) (n:az) (v:AV),(vT mx r k n).val σ=aj v->
  ∃m,v= .i k m/\((r.map a.eval).foldlM (if mx then CP else CQ) (.int k n)).run P w= .ok (.int k m) w:=by
 intro r;induction r with
 |nil=>intro k n v h;obtain rfl:=aF h;exact⟨n,rfl,rfl⟩
 |cons x r ih=>
  intro k n v h;obtain⟨⟨k2,m⟩,h1,h2⟩:=Rd.bind_some h;have hx:=py dD h1;obtain⟨q,hq,hr⟩:=ih k (k8 mx n m) v h2;refine⟨q,hq, ?_⟩
  simp only[e9,List.foldlM_cons,cg,hx];cases mx with
  |true=>
   have:(CP (.int k n) (.int k2 m)).run P w= .ok (.int k (k8 ak n m)) w:=by simp[CP,k8]
   simp only[if_true,this,bB]at hr⊢;exact hr
  |false=>
   have:(CQ (.int k n) (.int k2 m)).run P w= .ok (.int k (k8 aq n m)) w:=by simp[CQ,k8]
   simp only[dp,if_false,this,bB]at hr⊢;exact hr
theorem Dz(mx:aY)(b8:Ok E σ w c)(dD:e_ E σ a w c)(hd:∀d,o.dst=aj d->d<a.tmps.size){cl:Call}(ho:o.op= .call cl)(hb:cl.callee= .builtin (if mx then .max else .min))(h:(lF E nm o).val σ=aj e):gD P E σ a w c o e.ws:=by
 have main:∀x r,cl.args.toList=x::r->((Bk x).bind λ(k,n)=>(vT mx r k n).bind λv=>yx o v).val σ=aj e->gD P E σ a w c o e.ws:=by
  intro x r hx h;obtain⟨⟨k,n⟩,h1,h⟩:=Rd.bind_some h;obtain⟨v,h2,h⟩:=Rd.bind_some h;have ex:=py dD h1;obtain⟨m,rfl,hr⟩:=JE (P:=P) dD mx r k n v h2;refine fP b8 dD hd h (v:= .int k m) rfl (λn hn=>by simp[cD,bJ]at hn) ?_;obtain⟨cs,FW⟩:=mj (P:=P) (a:=a) (w:=w) ho hb;have rq:cl.args.map a.eval=((x::r).map a.eval).toArray:=by rw[<-hx];apply rE;simp
  rw[FW,rq];cases mx with
  |true=>simp only[if_true,builtin];refine iF ?_;simp only[Builtin.max_,e9,ex];exact hr
  |false=>simp only[dp,if_false,builtin];refine iF ?_;simp only[Builtin.min_,e9,ex];exact hr
 cases mx with
 |true=>
  simp only[lF,ho,hb,if_true]at h;split at h
  ·rename_i x r hx;exact main x r hx h
  ·simp at h
 |false=>
  simp only[lF,ho,hb,dp,if_false]at h;split at h
  ·rename_i x r hx;exact main x r hx h
  ·simp at h
theorem Sd{op:BinOp}{t:aG}{k:mH}{m n:az}{b:aY}{v:AV}(hs:M_ op=aq)(h:aaW op k m n=aj (b,v))(hb:b=ak):
  ∃u,ej E w c v u/\bJ v=[]/\(binOp op t (.int k m) (.int k n)).run P w= .ok u w:=by
 subst hb;cases op<;>simp only[aaW,jh,iT,true_and,reduceCtorEq]at h<;>first|(simp[M_]at hs;done)|skip
 case quo=>
  obtain⟨h1,rfl⟩:=h
  have hn:¬n=0:=by simpa using h1
  exact⟨_,rfl,rfl,by simp[binOp,Op.intDiv,hn]⟩
 case rem=>
  obtain⟨h1,rfl⟩:=h
  have hn:¬n=0:=by simpa using h1
  exact⟨_,rfl,rfl,by simp[binOp,Op.intDiv,hn]⟩
 all_goals (subst h;exact⟨_,rfl,rfl,by simp[binOp,Op.intArith,Op.intBits,Op.intCmp]⟩)
theorem Sf{op:BinOp}{t:aG}{m n:au}{b:aY}{v:AV}(hs:M_ op=aq)(h:aaY op m n=aj (b,v))(hb:b=ak):
  ∃u,ej E w c v u/\bJ v=[]/\(binOp op t (.string m) (.string n)).run P w= .ok u w:=by
 subst hb;cases op<;>simp only[aaY,jh,iT,true_and,reduceCtorEq]at h<;>first|(simp[M_]at hs;done)|skip
 case add=>
  obtain⟨h1,rfl⟩:=h
  have h1:=b9 h1
  refine⟨_,⟨rfl,by unfold F2;rw[dC];omega⟩,rfl, ?_⟩
  have:¬(((m.size+n.size:aG):az)>ar.max):=by
   have:ar.max=9223372036854775807:=by decide
   omega
  simp only[binOp,Op.stringOp,bM this,cM]
 all_goals (subst h;exact⟨_,rfl,rfl,by simp[binOp,Op.stringOp]⟩)
theorem wa{op:BinOp}{t:aG}{x y:dr}{u v:bg}(hu:∀xs,u≠ .agg xs)(hn:u≠ .nilIface):(eqGuard op t x y u v).run P w= .ok () w:=by unfold eqGuard;cases op<;>cases u<;>first|rfl|(exact cq rfl (hu _))|(exact cq rfl hn)|(cases v<;>rfl)
theorem v_{P:cR}(w:bF){t:aG}(h:P.underlying t=aj .bool)(m n:aY):(binOp .eql t (.bool m) (.bool n)).run P w= .ok (.bool (m==n)) w/\(binOp .neq t (.bool m) (.bool n)).run P w= .ok (.bool !(m==n)) w:=by
 have h1:(Op.equal t (.bool m) (.bool n)).run P w= .ok (m==n) w:=by show(Op.equalIn (9999+1) t (.bool m) (.bool n)).run P w=_;exact run_equalIn_bool w 9999 t m n h
 simp only[binOp,cg,h1,bB,cM];exact⟨trivial,trivial⟩
theorem Bv{xs:aA AV}{ks:aA Ck}(hk:xs.map E4=ks)(hp:plain ks=ak){vals:di bg}(hs:vals.size=xs.length)(hv:∀(j:aG) (a:AV),xs[j]? =aj a->∃u:bg,vals[j]? =aj u/\ej E w c a u):vals=(xs.map lz).toArray:=by
 apply rE;apply TC;intro j;simp only[cQ,bE];cases hx:xs[j]? with
 |none=>have:=List.getElem?_eq_none_iff.1 hx;simp;omega
 |some a=>
  obtain⟨u,hu,ha⟩:=hv j a hx;rw[hu];have hm:E4 a∈ks:=by rw[<-hk];exact cJ.2 ⟨a,aQ hx,rfl⟩
  have mB:=bn.1 hp _ hm;cases a<;>simp[E4]at mB<;>first|(have h1:u=_:=ha;rw[h1];rfl)|(have h1:u=_:=ha.1;rw[h1];rfl)
theorem Us(hE:eg P E){op:BinOp}{t:aG}{x y:dr}{sx sy:SV}{ux uy:bg}(ex:iW E w c sx ux)(ey:iW E w c sy uy){b:aY}{v:AV}(h3:(aaX E t op sx sy).val σ=aj (b,v))(hc:b=ak):
  ∃u,ej E w c v u/\bJ v=[]/\(do eqGuard op t x y ux uy;binOp op t ux uy).run P w= .ok u w:=by
 have fin:∀u,ej E w c v u->bJ v=[]->(do eqGuard op t x y ux uy;binOp op t ux uy).run P w= .ok u w->∃u,ej E w c v u/\bJ v=[]/\(do eqGuard op t x y ux uy;binOp op t ux uy).run P w= .ok u w:=
  λu hu hn hr=>⟨u,hu,hn,hr⟩
 have pl:∀u1 u2 r,ux=u1->uy=u2->(∀xs,u1≠ .agg xs)->u1≠ .nilIface->(binOp op t u1 u2).run P w= .ok r w->(do eqGuard op t x y ux uy;binOp op t ux uy).run P w= .ok r w:=by intro u1 u2 r h1 h2 h3 h4 h5;rw[h1,h2];simp only[cg,wa (P:=P) (w:=w) (op:=op) (t:=t) (x:=x) (y:=y) (v:=u2) h3 h4,bB,h5]
 unfold aaX at h3;split at h3
 ·rename_i p q;have ex:ej E w c p ux:=ex;have ey:ej E w c q uy:=ey;cases ma:M_ op with
  |true=>
   rw[ma]at h3;replace h3:=x_ h3;cases p<;>cases q<;>first|(simp[shV]at h3;done)|skip
   cases op<;>simp only[shV,jh,iT,reduceCtorEq]at h3<;>(obtain⟨rfl,rfl⟩:=h3)
   ·refine fin _ rfl rfl (pl _ _ _ ex ey (by simp) (by simp) ?_);have:¬(_:az)<0:=Int.not_lt.2 (b9 hc);simp[binOp,Op.shift,this]
   ·refine fin _ rfl rfl (pl _ _ _ ex ey (by simp) (by simp) ?_);have:¬(_:az)<0:=Int.not_lt.2 (b9 hc);simp[binOp,Op.shift,this]
  |false=>
   rw[ma]at h3;obtain⟨k,hk,h3⟩:=Rd.bind_some h3;replace h3:=x_ h3;cases p with
   |i k1 m=>
    cases q with
    |i k2 n=>
     have h9:=h3;simp only[IM]at h9;split at h9
     ·rename_i Qz;subst Qz;obtain⟨u,hu,hn,hr⟩:=Sd (P:=P) (t:=t) (E:=E) (c:=c) (w:=w) ma h9 hc;exact fin u hu hn (pl _ _ _ ex ey (by simp) (by simp) hr)
     ·cases h9
    |_=>simp[IM]at h3
   |s m=>
    cases q with
    |s n=>obtain⟨u,hu,hn,hr⟩:=Sf (P:=P) (t:=t) (E:=E) (c:=c) (w:=w) ma h3 hc;exact fin u hu hn (pl _ _ _ ex.1 ey.1 (by simp) (by simp) hr)
    |_=>simp[IM]at h3
   |b m=>
    cases q with
    |b n=>
     have XX:k= .b->P.underlying t=aj .bool:=by rintro rfl;obtain⟨ti,q1,q2,q3⟩:=qQ hk;obtain⟨d,X0,_,hn⟩:=hE.desc t ti q1;rcases hn q2 with ⟨k,h,_⟩|⟨h,rfl⟩|⟨h,_⟩|⟨e',h,_⟩|⟨h,_⟩<;>rw[q3]at h<;>simp_all
     cases op<;>cases k<;>simp only[IM,jh,iT,reduceCtorEq]at h3<;>(obtain⟨rfl,rfl⟩:=h3)
     ·refine fin _ rfl rfl (pl _ _ _ ex ey (by simp) (by simp) ?_);exact(v_ (P:=P) w (XX rfl) _ _).1
     ·refine fin _ rfl rfl (pl _ _ _ ex ey (by simp) (by simp) ?_);exact(v_ (P:=P) w (XX rfl) _ _).2
    |_=>simp[IM]at h3
   |_=>simp[IM]at h3
 ·rename_i xs ys;obtain⟨ti,ht,h3⟩:=Rd.bind_some h3;have ht:=dS ht;obtain⟨h4,h3⟩:=cE h3;simp only[aK]at h4;obtain⟨⟨⟨⟨h5,h6⟩,h7⟩,h8⟩,h9⟩:=h4;have h7:=qO h7;have h8:=qO h8;replace h3:=x_ h3;obtain⟨X,hX,sX,vX⟩:=ex;obtain⟨Y,hY,sY,vY⟩:=ey;have eX:=Bv h7 h9 sX vX;have eY:=Bv h8 h9 sY vY;cases hq:UF xs ys with
  |none=>rw[hq]at h3;cases h3
  |some r=>
   rw[hq]at h3;obtain⟨r1,r2⟩:=hE.eq t ti h6 ht w x y xs ys r hq h7 h8;cases op<;>first|(simp[isEq]at h5;done)|skip
   ·obtain⟨_,rfl⟩:=bU (aF h3);exact fin _ rfl rfl (by rw[hX,hY,eX,eY];exact r1)
   ·obtain⟨_,rfl⟩:=bU (aF h3);exact fin _ rfl rfl (by rw[hX,hY,eX,eY];exact r2)
 ·simp at h3
theorem RC(hE:eg P E)(b8:Ok E σ w c)(dD:e_ E σ a w c)(hd:∀d,o.dst=aj d->d<a.tmps.size){op:BinOp}{t ty:aG}{x y:dr}(ho:o.op= .binOp op t x y ty)(h:(lF E nm o).val σ=aj e)(hc:e.cond=ak):gD P E σ a w c o e.ws:=by simp only[lF,ho]at h;obtain⟨sx,h1,h⟩:=Rd.bind_some h;obtain⟨sy,h2,h⟩:=Rd.bind_some h;obtain⟨⟨b,v⟩,h3,h⟩:=Rd.bind_some h;obtain rfl:=aF h;obtain⟨u,hu,hn,hr⟩:=Us (P:=P) (x:=x) (y:=y) hE (lM dD h1).1 (lM dD h2).1 h3 hc;refine gn b8 dD hd (s:= .v aq [v]) hu (λn j_=>by simp[cD,hn]at j_) ?_;unfold execOp;rw[ho];exact iF hr
end
end Go.FG

namespace Go.FG
theorem Kg{p:Pl}(hn:p.nil=aq->p.n<=p.cap)(hz:p.nil=ak->p.n=0):vA p 0 p.n (lh p):=by
 refine⟨bL _,cu _,λh=>mU h,λh=> ?_⟩
 rw[eP h];by_cases hc:p.cap=0
 ·refine .inr ⟨hc.symm,p.off,Nat.le_add_right _ _, ?_⟩;have:=hn h;rw[hc,show p.n=0 by omega]
 ·refine .inl ⟨by omega, ?_⟩;simp
theorem qq(xs:aW):eT xs 0 xs.length=xs:=by unfold eT;simp
def nL(w:bF)(v:bg)(xs:aW)(sz:aG)(R:aG->aG->bg->CV->Prop):Prop:=
 ∃A cp,v= .slice A xs.length cp/\(xs≠[]->∃b o,A=aj (ad b o)/\∀(i:aG) (y:aA CV) (j:aG) (x:CV),xs[i]? =aj y->y[j]? =aj x->∃u:bg,w.cell? (ad b (o+i*sz+j))=aj u/\R i j u x)
theorem nL.imp{w:bF}{v:bg}{xs:aW}{sz:aG}{R R':aG->aG->bg->CV->Prop}(h:nL w v xs sz R)(hR:∀(i:aG) (y:aA CV) (j:aG) (x:CV) (u:bg),xs[i]? =aj y->y[j]? =aj x->R i j u x->R' i j u x):nL w v xs sz R':=by
 obtain⟨A,cp,h1,h2⟩:=h;refine⟨A,cp,h1,λic=> ?_⟩
 obtain⟨b,o,h3,h4⟩:=h2 ic;refine⟨b,o,h3,λi y j x hi hj=> ?_⟩
 obtain⟨u,hu,hr⟩:=h4 i y j x hi hj;exact⟨u,hu,hR i y j x u hi hj hr⟩
theorem Ka{w:bF}{p:Pl}{xs:aW}{R:aG->aG->bg->CV->Prop}{lo hi:aG}{v:bg}(h:iV w p xs R)(hv:vA p lo hi v):nL w v (eT xs lo hi) p.sz (λi j u x=>R (lo+i) j u x):=by
 obtain⟨v1,v2,v3,v4⟩:=hv;have hl:=lR (xs:=xs) (lo:=lo) (hi:=hi) (by rw[<-h.n];exact v2);cases hq:p.nil with
 |true=>
  have hx:=(h.nil hq).1;have h0:=h.n;rw[hx]at h0;refine⟨ao,0, ?_,λic=>cq (by rw[hx];unfold eT;simp) ic⟩
  rw[v3 hq,hl];have:p.n=0:=h0;congr 1;omega
 |false=>
  obtain⟨vals,hb,QC,Qv,nD,hc⟩:=h.mem hq;rcases v4 hq with ⟨u1,rfl⟩|⟨u1,oo,u2,rfl⟩
  ·refine⟨_,_,by rw[hl],λic=>⟨_,_,rfl,λi y j x lD hj=> ?_⟩⟩
   rw[sO]at lD;split at lD
   ·obtain⟨u,hu,hr⟩:=hc (lo+i) y j x lD hj;refine⟨u, ?_,hr⟩
    rw[hb.cell,<-hu];congr 1;rw[dc];omega
   ·cases lD
  ·have h0:hi-lo=0:=by omega
   refine⟨_,_,by rw[hl,h0],λic=>cq (fV (hl.trans h0)) ic⟩
theorem Hf{E:fF}{w:bF}{K:aG->Prop}{p:Pl}{e:aG}{te:TI}{xs:aW}(he:E.ty e=aj te)(h:cZ E w K (lh p) (.l e xs))(hn:p.n=xs.length)(hs:p.sz=te.ks.length){lo hi:aG}{v:bg}(hv:vA p lo hi v):cZ E w K v (.l e (eT xs lo hi)):=by
 obtain⟨v1,v2,v3,v4⟩:=hv;have hl:=lR (xs:=xs) (lo:=lo) (hi:=hi) (by rw[<-hn];exact v2);have nil:hi-lo=0->eT xs lo hi=[]:=λh0=>fV (hl.trans h0);cases hq:p.nil with
 |true=>
  rw[mU hq]at h;have hx:xs=[]:=by cases h;rfl
  subst hx;have hn:p.n=0:=hn;rw[v3 hq,nil (by omega)];exact .nl _ _ _
 |false=>
  rw[eP hq]at h;rcases v4 hq with ⟨u1,rfl⟩|⟨u1,oo,u2,rfl⟩
  ·have:=(Dp (lo:=lo) (hi:=hi) he h v1 (by rw[<-hn];exact v2)).2;rw[bM (by omega)]at this;simpa only[iS,Addr.nA,hs]using this
  ·by_cases hz:hi-lo=0
   ·rw[nil hz];exact .nl _ _ _
   ·have h1:0<xs.length:=by omega
    obtain⟨t3,U,L⟩:=h.Hr h1;have:=L.cap;omega
theorem yu{E:fF}{w:bF}{K:aG->Prop}{v:bg}{e:aG}{te:TI}{xs:aW}(he:E.ty e=aj te)(h:cZ E w K v (.l e xs)):nL w v xs te.ks.length (λ_ _ u x=>cZ E w K u x)/\∀y∈xs,y.map CV.kd=te.ks:=by
 cases h with
 |nl=>exact⟨⟨_,_,rfl,λh=>cq rfl h⟩,λy hy=>by cases hy⟩
 |l _ _ b o cp ti U ht hc hm hK hs hcell gQ=>obtain rfl:te=ti:=aF (he.symm.trans ht);exact⟨⟨_,_,rfl,λ_=>⟨b,o,rfl,λi y j x hi hj=>⟨U i j,hcell i j y x hi hj,gQ i j y x hi hj⟩⟩⟩,hs⟩
theorem oM{E:fF}{w:bF}{K:aG->Prop}{u:bg}{x:CV}(h:cZ E w K u x)(hl:s8 x=aq):Sc u x:=by
 cases h with
 |i=>exact⟨rfl,trivial⟩
 |b=>exact⟨rfl,trivial⟩
 |s _ h=>exact⟨rfl,h⟩
 |nl=>simp[s8]at hl
 |l=>simp[s8]at hl
theorem kl{E:fF}{w:bF}{K:aG->Prop}{u:bg}{x:CV}(hl:s8 x=aq)(h:Sc u x):cZ E w K u x:=by
 obtain⟨h1,h2⟩:=h;subst h1;cases x with
 |i k n=>exact .i k n
 |b x=>exact .b x
 |s x=>exact .s x h2
 |l=>simp[s8]at hl
theorem tw{E:fF}{w:bF}{G:aG->aG->Pl}{i j:aG}{u:bg}{x:CV}(h:XC E w G i j u x)(hl:s8 x=aq):Sc u x:=by
 cases x with
 |l=>simp[s8]at hl
 |i=>exact h
 |b=>exact h
 |s=>exact h
theorem tu{E:fF}{w:bF}{G:aG->aG->Pl}{i j:aG}{u:bg}{x:CV}(hl:s8 x=aq)(h:Sc u x):XC E w G i j u x:=by
 cases x with
 |l=>simp[s8]at hl
 |i=>exact h
 |b=>exact h
 |s=>exact h
theorem nL.list{w:bF}{v:bg}{xs:aW}{sz:aG}{R:aG->aG->bg->CV->Prop}(h:nL w v xs sz R)(hs:∀y∈xs,y.length=sz):
  ∃(A:aC Addr) (cp:aG) (news:aA bg),v= .slice A xs.length cp/\news.length=xs.length*sz/\(xs=[]\/∃b o,A=aj (ad b o)/\∀j u,news[j]? =aj u->w.cell? (ad b (o+j))=aj u)/\
   ∀(i:aG) (y:aA CV) (j:aG) (x:CV),xs[i]? =aj y->y[j]? =aj x->∃u:bg,news[i*sz+j]? =aj u/\R i j u x:=by
 obtain⟨A,cp,rfl,h2⟩:=h;by_cases hx:xs=[]
 ·subst hx;exact⟨A,cp,[],rfl,by simp, .inl rfl,λi y j x hi hj=>by simp at hi⟩
 ·obtain⟨b,o,h3,h4⟩:=h2 hx;have ex:∀q,q<xs.length*sz->∃u,w.cell? (ad b (o+q))=aj u:=by
   intro q hq;have fX:0<sz:=by rcases BU sz with h|h;(subst h;simp at hq);exact h
   have hi:q/sz<xs.length:=by rw[wA fX];exact hq
   have hj:q%sz<xs[q/sz].length:=by rw[hs _ (bD hi)];exact BV _ fX
   obtain⟨u,hu,_⟩:=h4 (q/sz) xs[q/sz] (q%sz) (xs[q/sz][q%sz]) (by simp[hi]) (by simp[hj]);refine⟨u, ?_⟩
   rw[<-hu];congr 2;have:=H9 q sz;rw[CS]at this;omega
  refine⟨A,cp,(cO (xs.length*sz)).map (λq=>(w.cell? (ad b (o+q))).getD undef),rfl,by simp, .inr ⟨b,o,h3,λj u hj=> ?_⟩,λi y j x hi hj=> ?_⟩
  ·rw[bE]at hj;by_cases jF:j<xs.length*sz
   ·obtain⟨u',rA⟩:=ex j jF;simp only[jF,uB,iS,rA,wR,jh]at hj;rw[rA,hj]
   ·rw[kC (l:=cO (xs.length*sz)) (by simpa using jF)]at hj;cases hj
  ·obtain⟨u,hu,hr⟩:=h4 i y j x hi hj;refine⟨u, ?_,hr⟩
   have hil:=(aU.1 hi).1;have jF:=(aU.1 hj).1;rw[hs y (aQ hi)]at jF;have jG:i*sz+j<xs.length*sz:=by have:(i+1)*sz<=xs.length*sz:=b7 _ hil;rw[dc]at this;omega
   rw[bE,uB jG,iS];rw[show o+(i*sz+j)=o+i*sz+j by omega,hu];rfl
section
variable {P:cR} {E:fF} {σ:St} {a:Act} {w:bF} {c:eO} {o:e8} {nm:aG} {e:rT}
theorem v8(b8:Ok E σ w c){nm e:aG}{ex:aY}{xs:aW}(h:σ (cX nm)= .o (.row e ex xs)){lo hi:aG}{v:bg}(hv:vA (c.P nm) lo hi v):
  ∃te,E.ty e=aj te/\(∀y∈eT xs lo hi,y.map CV.kd=te.ks)/\nL w v (eT xs lo hi) te.ks.length (λi j u x=>if ex=ak then XC E w (c.G nm) (lo+i) j u x else cZ E w c.K u x):=by obtain⟨⟨ti,h1,h2,h3⟩,h4,_⟩:=b8.obj nm _ h;have:=Ka h4 hv;rw[h2]at this;exact⟨ti,h1,λy hy=>h3 y (Bc hy),this⟩
theorem u6(b8:Ok E σ w c){nm e:aG}{ex:aY}{xs:aW}(h:σ (cX nm)= .o (.row e ex xs)):vA (c.P nm) 0 xs.length (lh (c.P nm)):=by obtain⟨h1,h2,ti,h3,h4,h5⟩:=kL b8 h;rw[<-h1];exact Kg (λhn=>(h5 hn).1) (λhn=>by rw[h1,h2 hn];rfl)
theorem G4(b8:Ok E σ w c){nm e:aG}{xs:aW}(h:σ (cX nm)= .o (.fI e xs)):vA (c.P nm) 0 xs.length (lh (c.P nm)):=by
 obtain⟨h1,h2,ti,h3,h4⟩:=mq b8 h;rw[<-h1];refine Kg (λhn=> ?_) (λhn=>by rw[h1,h2 hn];rfl);obtain⟨j1,j2,_⟩:=b8.obj nm _ h;rw[eP hn]at j1;by_cases hz:0<xs.length
 ·obtain⟨t3,U,L⟩:=j1.Hr hz;rw[j2];exact L.cap
 ·omega
theorem oL(b8:Ok E σ w c){nm e:aG}{xs:aW}(h:σ (cX nm)= .o (.fI e xs)){lo hi:aG}{v:bg}(hv:vA (c.P nm) lo hi v):cZ E w c.K v (.l e (eT xs lo hi)):=by obtain⟨h1,h2,ti,h3,h4⟩:=b8.obj nm _ h;exact Hf h3 h1 h2 h4 hv
theorem zP(b8:Ok E σ w c){nm e e2 i j:aG}{xs:aW}{te:TI}(h:σ (cX nm)= .o (.row e ak xs))(ht:E.ty e=aj te)(hk:te.ks[j]? =aj (.l e2))(hi:i<(c.P nm).n):
  ∃ys y t2,xs[i]? =aj y/\y[j]? =aj (.l e2 ys)/\E.ty e2=aj t2/\plain t2.ks=ak/\(c.G nm i j).sz=t2.ks.length/\(∀y∈ys,y.map CV.kd=t2.ks)/\iV w (c.G nm i j) ys (λ_ _ u x=>Sc u x)/\vA (c.G nm i j) 0 ys.length (lh (c.G nm i j)):=by
 obtain⟨⟨tj,htj,fX,ma⟩,fW,_⟩:=b8.obj nm _ h;obtain rfl:te=tj:=aF (ht.symm.trans htj);obtain⟨zs,y,hy,hyj,uu,_,tk,E2,ry,Jv,Cy,n8⟩:=tq (c:=c) fW ma hi hk;refine⟨zs,y,tk,hy,hyj,E2,ry,Jv,Cy,n8, ?_⟩
 have:=Kg (p:=c.G nm i j) (λhn=>by obtain⟨_,_,q,_⟩:=n8.mem hn;exact q) (λhn=>by rw[n8.n,(n8.nil hn).1];rfl);rwa[n8.n]at this
theorem M6{E:fF}{w:bF}{K:aG->Prop}{v:bg}{e:aG}{xs:aW}(h:cZ E w K v (.l e xs)):xs.length<=maxLen:=by
 cases h with
 |nl=>exact bL _
 |l _ _ b o cp ti U ht hc hm=>exact db hc hm
theorem tp{w:bF}{p:Pl}{xs:aW}{R:aG->aG->bg->CV->Prop}(h:iV w p xs R):xs.length<=maxLen:=by
 cases hn:p.nil with
 |true=>rw[(h.nil hn).1];exact bL _
 |false=>obtain⟨vals,_,h2,h3,_⟩:=h.mem hn;rw[<-h.n];exact db h2 h3
theorem H5(xs:aW)(lo hi:aG):(eT xs lo hi).length<=xs.length:=by unfold eT;simp;omega
theorem yW(b8:Ok E σ w c){x:AV}{v:bg}(hx:ej E w c x v){el:aG}{xs:aW}{te:TI}(h:(lU E x).val σ=aj (el,xs))(ht:E.ty el=aj te)(hp:plain te.ks=ak):
  nL w v xs te.ks.length (λ_ _ u x=>Sc u x)/\(∀y∈xs,y.map CV.kd=te.ks)/\xs.length<=maxLen:=by
 have ofH:∀{xs:aW} {v:bg},cZ E w c.K v (.l el xs)->nL w v xs te.ks.length (λ_ _ u x=>Sc u x)/\(∀y∈xs,y.map CV.kd=te.ks)/\xs.length<=maxLen:=by intro xs v hh;obtain⟨h1,h2⟩:=yu ht hh;exact⟨h1.imp λi y j x u hi hj hr=>oM hr (gX hp (h2 y (aQ hi)) hj),h2,M6 hh⟩
 have ofR:∀{nm:aG} {ex:aY} {xs:aW} {lo hi:aG} {v:bg},σ (cX nm)= .o (.row el ex xs)->vA (c.P nm) lo hi v->nL w v (eT xs lo hi) te.ks.length (λ_ _ u x=>Sc u x)/\(∀y∈eT xs lo hi,y.map CV.kd=te.ks)/\(eT xs lo hi).length<=maxLen:=by
  intro nm ex xs lo hi v hg hv;obtain⟨t2,q1,q2,q3⟩:=v8 b8 hg hv;obtain rfl:te=t2:=aF (ht.symm.trans q1);refine⟨q3.imp λi y j x u hi hj hr=> ?_,q2,db (H5 _ _ _) (tp (b8.obj nm _ hg).at_)⟩
  have hl:=gX hp (q2 y (aQ hi)) hj;split at hr
  ·exact tw hr hl
  ·exact oM hr hl
 cases x with
 |sh e' ys=>obtain⟨rfl,rfl⟩:=bU (aF h);exact ofH hx
 |own n=>
  obtain⟨ob,hg,h⟩:=Rd.bind_some h;have hg:=dt hg;have hx:v=lh (c.P n):=hx;subst hx;cases ob with
  |row e' ex ys=>obtain⟨rfl,rfl⟩:=bU (aF h);have:=ofR hg (u6 b8 hg);rwa[qq]at this
  |fI e' ys=>obtain⟨rfl,rfl⟩:=bU (aF h);have:=ofH (oL b8 hg (G4 b8 hg));rwa[qq]at this
  |_=>simp at h
 |vw n lo hi=>
  obtain⟨ob,hg,h⟩:=Rd.bind_some h;have hg:=dt hg;cases ob with
  |row e' ex ys=>obtain⟨rfl,rfl⟩:=bU (aF h);exact ofR hg hx
  |fI e' ys=>obtain⟨rfl,rfl⟩:=bU (aF h);exact ofH (oL b8 hg hx)
  |_=>simp at h
 |inn n i j=>
  obtain⟨ob,hg,h⟩:=Rd.bind_some h;have hg:=dt hg;cases ob with
  |row e' ex ys=>
   cases ex with
   |false=>simp at h
   |true=>
   obtain⟨t1,ht1,h⟩:=Rd.bind_some h;have ht1:=dS ht1;split at h
   ·rename_i e2 zp;obtain⟨rfl,rfl⟩:=bU (aF h);obtain⟨⟨lK,hx⟩,_⟩:=hx;obtain⟨zs,y,t2,q1,q2,q3,q4,q5,q6,q7,q8⟩:=zP b8 hg ht1 zp lK;obtain rfl:te=t2:=aF (ht.symm.trans q3);rw[fc q1 q2];have:=Ka q7 q8;rw[qq,q5]at this;subst hx;exact⟨this,q6,tp q7⟩
   ·simp at h
  |_=>simp at h
 |_=>simp[lU]at h
end
end Go.FG

namespace Go.FG
def fQ(E:fF)(w:bF)(c:eO)(vals:di bg)(xs:aA AV):Prop:=
 vals.size=xs.length/\∀(j:aG) (a:AV),xs[j]? =aj a->∃u:bg,vals[j]? =aj u/\ej E w c a u
theorem pM.cells{E:fF}{w:bF}{c:eO}{agg:aY}{xs:aA AV}{v:bg}(h:pM E w c agg xs v):fQ E w c v.cells xs:=by
 unfold pM at h;split at h
 ·rename_i a;rw[Da h.one];refine⟨rfl,λj a' hj=> ?_⟩
  cases j with
  |zero=>simp at hj;subst hj;exact⟨v,rfl,h⟩
  |succ=>simp at hj
 ·obtain⟨vals,rfl,hs,hv⟩:=h;exact⟨hs,hv⟩
 ·exact h.elim
theorem fQ.one{E:fF}{w:bF}{c:eO}{xs:aA AV}{vals:di bg}(h:fQ E w c vals xs):∀u∈vals.toList,u.oneCell'=true:=by
 intro u hu;obtain⟨j,hj⟩:=bZ hu;have jG:j<xs.length:=by rw[<-h.1];have:=(aU.1 hj).1;simpa using this
 obtain⟨u',h1,h2⟩:=h.2 j xs[j] (by simp[jG]);rw[cQ,h1]at hj;cases hj;exact h2.one
theorem uh{α:Type}{xs ys:aA α}{j:aG}(h:j+ys.length<=xs.length):(iG xs j ys).length=xs.length:=by unfold iG;simp;omega
theorem oQ{α:Type}{xs ys:aA α}{j:aG}(h:j+ys.length<=xs.length)(k:aG):(iG xs j ys)[k]? =if j<=k/\k<j+ys.length then ys[k-j]? else xs[k]? :=by
 unfold iG;by_cases h1:k<j
 ·rw[bM (by omega),cj,dj (by simp;omega),dV,bC h1]
 ·by_cases h2:k<j+ys.length
  ·rw[bC ⟨by omega,h2⟩,cj,c6 (by simp;omega),dj (by simp;omega)];congr 1;simp;omega
  ·rw[bM (by omega),cj,c6 (by simp;omega),c6 (by simp;omega),dM];congr 1;simp;omega
theorem Bb{α:Type}{xs ys:aA α}{j:aG}{x:α}(h:x∈iG xs j ys):x∈xs\/x∈ys:=by
 unfold iG at h;simp only[a_]at h;rcases h with (h|h)|h
 ·exact .inl (kE h)
 ·exact .inr h
 ·exact .inl (kD h)
theorem fQ.put{E:fF}{w:bF}{c:eO}{xs ys:aA AV}{vals vs:di bg}(h:fQ E w c vals xs)(h':fQ E w c vs ys){j:aG}(hl:j+ys.length<=xs.length):fQ E w c (dY vals j vs.toList) (iG xs j ys):=by
 have hb:j+vs.toList.length<=vals.size:=by rw[h.1,dN,h'.1];exact hl
 refine⟨by rw[eS hb,uh hl];exact h.1,λk a hk=> ?_⟩
 rw[oQ hl]at hk;rw[gd hb,dN,h'.1];split at hk
 ·rename_i hc;rw[bC hc,cQ];exact h'.2 _ a hk
 ·rename_i hc;rw[bM hc];exact h.2 k a hk
theorem Qm(off:aG):∀(l:aA bg) (k:aG) (cells:di bg),off+k+l.length<=cells.size->
  ((l.zipIdx k).foldl (λr p=>r.setIfInBounds (off+p.2) p.1) cells).size=cells.size/\
  ∀q:aG,((l.zipIdx k).foldl (λr p=>r.setIfInBounds (off+p.2) p.1) cells)[q]? =if off+k<=q/\q<off+k+l.length then l[q-(off+k)]? else cells[q]? :=by
 intro l;induction l with
 |nil=>intro k cells _;refine⟨rfl,λq=> ?_⟩;rw[bM (by simp)];rfl
 |cons v rest ih=>
  intro k cells hl;simp only[c7]at hl;obtain⟨h1,h2⟩:=ih (k+1) (cells.setIfInBounds (off+k) v) (by simp;omega);simp only[List.zipIdx_cons,B_];refine⟨by rw[h1];simp,λq=> ?_⟩
  rw[h2 q];by_cases hq:q=off+k
  ·subst hq;rw[bM (by omega),bC ⟨by omega,by simp⟩,nJ,bC rfl,bC (by omega)];simp
  ·by_cases hr:off+(k+1)<=q/\q<off+(k+1)+rest.length
   ·rw[bC hr,bC ⟨by omega,by simp;omega⟩];rw[show q-(off+k)=(q-(off+(k+1)))+1 by omega,dI]
   ·rw[bM hr,bM (by simp;omega),nJ,bM (λh=>hq h.symm)]
theorem Di{off:aG}{vs cells:di bg}(h:off+vs.size<=cells.size):(vs.zipIdx.foldl (λr (p:bg×aG)=>r.setIfInBounds (off+p.2) p.1) cells)=dY cells off vs.toList:=by
 rw[<-Array.foldl_toList,Array.toList_zipIdx];obtain⟨h1,h2⟩:=Qm off vs.toList 0 cells (by simpa using h);have hb:off+vs.toList.length<=cells.size:=by simpa using h
 apply Array.ext_getElem?;intro q;rw[h2 q,gd hb];simp
theorem NS{E:fF}{w:bF}{c:eO}{k:Ck}(h:(match k with| .o=>aq|_=>ak)=ak):ej E w c (BQ k) (im k):=by cases k<;>first|rfl|exact⟨rfl,bL _⟩|simp at h
theorem Be(k:Ck):bJ (BQ k)=[]:=by cases k<;>rfl
theorem H8{E:fF}{w:bF}{c:eO}{ks:aA Ck}(h:JI ks=ak):fQ E w c (ks.map im).toArray (ks.map BQ):=by
 refine⟨by simp,λj a hj=> ?_⟩
 rw[bE]at hj;cases hk:ks[j]? with
 |none=>rw[hk]at hj;cases hj
 |some k=>rw[hk]at hj;cases hj;exact⟨im k,by simp[hk],NS (bn.1 h k (aQ hk))⟩
section
variable {P:cR} {E:fF} {σ:St} {a:Act} {w:bF} {c:eO} {o:e8} {nm:aG} {e:rT}
theorem Nv(hE:eg P E)(dD:e_ E σ a w c){t:aG}{pl:aA (aG×aG)}{size:aG}(ry:∀f o n,E.fo t f=aj (o,n)->pl[f]? =aj (o,n)/\o+n<=size):∀(ps:aA (aG×dr)) (l:aA (aG×aA AV)),(Fj E t ps).val σ=aj l->
  ∀(vals:di bg) (xs:aA AV),fQ E w c vals xs->xs.length=size->(∀a∈xs,iU σ a)->
  ∃iN,oV (λi=>pl[i]?) vals (ps.map λ(i,x)=>(i,a.eval x))=aj iN/\fQ E w c iN (Ld xs l)/\(∀a∈Ld xs l,iU σ a):=by
 intro ps;induction ps with
 |nil=>intro l h vals xs hv _ hk;obtain rfl:=aF h;exact⟨vals,rfl,hv,hk⟩
 |cons p r ih=>
  obtain⟨f,x⟩:=p;intro l h vals xs hv fX hk;obtain⟨v,h1,h⟩:=Rd.bind_some h;obtain⟨M8,hkv⟩:=lM dD h1;cases v with
  |v g ys=>
   replace h:(match E.fo t f with|some (o,n)=>bif bA ys.length n then(Fj E t r).bind λl=> .ret ((o,ys)::l)else .fail|none=> .fail:Rd (aA (aG×aA AV))).val σ=aj l:=h;cases hf:E.fo t f with
   |none=>rw[hf]at h;simp at h
   |some q=>
    obtain⟨off,n⟩:=q;rw[hf]at h;obtain⟨hn,h⟩:=cE h;have hn:=aX hn;obtain⟨l',hl',h⟩:=Rd.bind_some h;obtain rfl:=aF h;obtain⟨M9,hp2⟩:=ry f off n hf;have hc:=pM.cells M8;have nD:off+ys.length<=xs.length:=by omega
    obtain⟨iN,q1,q2,q3⟩:=ih l' hl' (dY vals off (a.eval x).cells.toList) (iG xs off ys) (hv.put hc nD) (by rw[uh nD];exact fX)
     (λb hb=>by
      rcases Bb hb with hb|hb
      ·exact hk b hb
      ·exact λn hn=>hkv n (bG.2 ⟨b,hb,hn⟩))
    refine⟨iN, ?_,q2,q3⟩
    simp only[e9,oV,M9];have c1:(a.eval x).cells.size=n:=by rw[hc.1,hn]
    have c2:¬(off+(a.eval x).cells.size>vals.size):=by rw[hc.1,hv.1];omega
    rw[bM (by simp[c1];rw[c1]at c2;omega)];have:=Di (off:=off) (vs:=(a.eval x).cells) (cells:=vals) (by omega);rw[<-q1];exact mi (λz=>oV (λi=>pl[i]?) z _) this
  |je=>simp at h
  |un=>simp at h
theorem RD(hE:eg P E)(b8:Ok E σ w c)(dD:e_ E σ a w c)(hd:∀d,o.dst=aj d->d<a.tmps.size){t:aG}{ps:di (aG×dr)}(ho:o.op= .build t ps)(h:(lF E nm o).val σ=aj e):gD P E σ a w c o e.ws:=by simp only[lF,ho]at h;obtain⟨ti,h1,h⟩:=Rd.bind_some h;obtain⟨hb,h⟩:=cE h;obtain⟨l,h2,h⟩:=Rd.bind_some h;have ht:=dS h1;simp only[aK]at hb;obtain⟨uS,s7⟩:=hb;obtain⟨inf,hi,fX,_,_,hz⟩:=hE.info t ti ht;obtain⟨z,Ih,CB,_⟩:=hz uS;obtain⟨d,X0,ha,_⟩:=hE.desc t ti ht;obtain⟨fs,rfl,Jq⟩:=ha s7;obtain⟨pl,M9,hp2⟩:=hE.pl t ti ht s7 fs X0;obtain⟨vals,q1,q2,q3⟩:=Nv (size:=ti.ks.length) hE dD (λf o n hf=>⟨hp2 f o n hf,(Jq f o n hf).choose_spec.2.2.2.2⟩) ps.toList l h2 _ _ (H8 (w:=w) (c:=c) (E:=E) uS) (by simp) (λb hb=>by obtain⟨k,_,rfl⟩:=cJ.1 hb;exact s9 (Be k));refine fP b8 dD hd h (v:= .agg vals) ⟨vals,rfl,q2.1,q2.2⟩ (λn hn=>by obtain⟨x,hx,hn⟩:=bG.1 hn;exact q3 x hx n hn) ?_;unfold execOp;rw[ho];refine iF (run_build w t _ vals ?_);simp only[Program.built,hi,X0,Ih,M9,CB,gU,yZ];exact q1
theorem RF(hE:eg P E)(b8:Ok E σ w c)(dD:e_ E σ a w c)(hd:∀d,o.dst=aj d->d<a.tmps.size){t f:aG}{x:dr}(ho:o.op= .field t x f)(h:(lF E nm o).val σ=aj e):gD P E σ a w c o e.ws:=by
 simp only[lF,ho]at h;obtain⟨v,h1,h⟩:=Rd.bind_some h;obtain⟨hv,hk⟩:=lM dD h1;cases v with
 |v g xs=>
  cases g with
  |true=>
   cases hf:E.fo t f with
   |none=>rw[hf]at h;simp at h
   |some r=>
    obtain⟨j,n⟩:=r;rw[hf]at h;obtain⟨hb,h⟩:=cE h;rw[aK]at hb;cases hx:xs.drop j with
    |nil=>rw[hx]at h;simp at h
    |cons y ys=>
     rw[hx]at h;have hj:xs[j]? =aj y:=by have:=dM (xs:=xs) (i:=j) (j:=0);rw[hx]at this;simpa using this.symm
     obtain⟨vals,q1,q2,q3⟩:∃vals:di bg,a.eval x= .agg vals/\vals.size=xs.length/\∀(j:aG) (b:AV),xs[j]? =aj b->∃u:bg,vals[j]? =aj u/\ej E w c b u:=hv;obtain⟨u,hu,TM⟩:=q3 j y hj;obtain⟨ti,ht,s7⟩:=hE.fo t f j n hf;obtain⟨d,X0,ha,_⟩:=hE.desc t ti ht;obtain⟨fs,rfl,Jq⟩:=ha s7;obtain⟨fd,g1,g2,_⟩:=Jq f j n hf;have hAg:=hE.fl t f hb.1 fs fd X0 g1 w;refine fP b8 dD hd h (s:= .v aq [y]) (v:=u) TM (λm hm=>hk m (bG.2 ⟨y,aQ hj,by simpa [cD]using hm⟩)) ?_;unfold execOp;rw[ho];refine iF ?_;simp only[Instr.field,cg,run_underlying X0,bB,g1,q1,asAgg,cM,part,hAg,dp,if_false,g2,hu]
  |false=>simp at h
 |je=>simp at h
 |un=>simp at h
theorem RB(hE:eg P E)(b8:Ok E σ w c)(dD:e_ E σ a w c)(hd:∀d,o.dst=aj d->d<a.tmps.size){t:aG}(ho:o.op= .alloc t)(h:(lF E nm o).val σ=aj e):gD P E σ a w c o e.ws:=by
 simp only[lF,ho]at h;obtain⟨ti,h1,h⟩:=Rd.bind_some h;obtain⟨hb,h⟩:=cE h;obtain⟨u,h2,h⟩:=Rd.bind_some h;obtain⟨hf,jG⟩:=j9 h2;obtain rfl:=aF h;have hr:=ND (P:=P) w hE (dS h1) hb;refine AZ b8 dD hd (p:=⟨aq,w.heap.size,0,0,0,0⟩) (g:=λ_ _=>⟨aq,0,0,0,0,0⟩) hf jG (λc' hP _ _ _=> ?_) (λc' hP _ b hb=> ?_) (λxs hx b hb=> ?_) (λc' hP _=> ?_) (λn hn=> .inl (by simpa [cD,bJ]using hn)) (λb hb=>heap_alloc_old w _ b hb) (by simp) rfl rfl rfl (v:= .pointer (aj (ad w.heap.size 0))) (w':=w.alloc (.cells (ti.ks.map im).toArray t)) ?_
 ·obtain⟨z1,z2⟩:=H8 (E:=E) (w:=w.alloc (.cells (ti.ks.map im).toArray t)) (c:=c') hb;exact⟨_,by rw[hP];exact nq.alloc w _ t,z1,z2⟩
 ·have:b=(c'.P nm).blk:=hb;rw[this,hP];exact cu _
 ·cases hx;obtain⟨k,_,rfl⟩:=cJ.1 hb;exact s9 (Be k)
 ·show _=_;rw[hP]
 ·unfold execOp;rw[ho];exact iF hr
theorem acr(b8:Ok E σ w c)(dD:e_ E σ a w c)(hd:∀d,o.dst=aj d->d<a.tmps.size){t:aG}{x:dr}(ho:o.op= .box t x)(h:(lF E nm o).val σ=aj e):gD P E σ a w c o e.ws:=by
 simp only[lF,ho]at h;obtain⟨v,h1,h⟩:=Rd.bind_some h;obtain⟨hv,hk⟩:=lM dD h1;cases v with
 |v g xs=>
  obtain⟨u,h2,h⟩:=Rd.bind_some h;obtain⟨hf,jG⟩:=j9 h2;obtain rfl:=aF h;have hr:=Sg (P:=P) w t (a.eval x);have kx:∀b∈xs,iU σ b:=λb hb n hn=>hk n (bG.2 ⟨b,hb,hn⟩);have ng:=pM.cells hv;refine AZ b8 dD hd (p:=⟨aq,w.heap.size,0,0,0,0⟩) (g:=λ_ _=>⟨aq,0,0,0,0,0⟩) hf jG (λc' hP _ hK hA=> ?_) (λc' hP _ b hb=> ?_) (λys hx b hb=> ?_) (λc' hP _=> ?_) (λn hn=> .inl (by simpa [cD,bJ]using hn)) (λb hb=>heap_alloc_old w _ b hb) (by simp) rfl rfl rfl (v:= .pointer (aj (ad w.heap.size 0))) (w':=w.alloc (.cells (a.eval x).cells t)) ?_
  ·refine⟨_,by rw[hP];exact nq.alloc w _ t,ng.1,λj y hj=> ?_⟩
   obtain⟨u,hu,hy⟩:=ng.2 j y hj;exact⟨u,hu,hy.frame (λb hb=>heap_alloc_old w _ b (b8.lt b hb)) hK (λn hn=>hA n (.inl (kx y (aQ hj) n hn)))⟩
  ·have:b=(c'.P nm).blk:=hb;rw[this,hP];exact cu _
  ·cases hx;exact kx b hb
  ·show _=_;rw[hP]
  ·unfold execOp;rw[ho];exact iF hr
 |je=>simp at h
 |un=>simp at h
end
end Go.FG

namespace Go.FG
def JG(E:fF)(ks:aA Ck)(_i j:aG):Pl:=
 ⟨ak,0,0,0,0,match ks[j]? with|some (.l e)=>(match E.ty e with|some t=>t.ks.length|none=>0)|_=>0⟩
theorem uU{p:Pl}{G:aG->aG->Pl}{xs:aW}(h:∀i j,(G i j).nil=ak):DV p G xs:=
 ⟨λi j _ hn=>(by rw[h]at hn;cases hn),λi j i' j' _ _ hn=>(by rw[h]at hn;cases hn)⟩
theorem Mr{E:fF}{w:bF}{ks:aA Ck}(hf:flat E ks=ak)(hn:JI ks=ak){i j:aG}{k:Ck}(hk:ks[j]? =aj k):XC E w (JG E ks) i j (im k) (yB k):=by
 have h1:=bn.1 hf k (aQ hk);have h2:=bn.1 hn k (aQ hk);cases k with
 |l e=>
  replace h1:(match E.ty e with|some ti=>plain ti.ks|none=>aq)=true:=h1;cases ht:E.ty e with
  |none=>rw[ht]at h1;cases h1
  |some t=>
   rw[ht]at h1;refine⟨rfl,t,ht,h1, ?_,λy hy=>(by cases hy),⟨rfl,λ_=>⟨rfl,rfl⟩,λh=>by cases h⟩⟩
   show(match ks[j]? with|some (.l e)=>(match E.ty e with|some t=>t.ks.length|none=>0)|_=>0)=_;rw[hk];simp only[ht]
 |o=>cases h2
 |s=>exact⟨rfl,bL _⟩
 |_=>exact⟨rfl,trivial⟩
theorem Kn{E:fF}{w:bF}{K:aG->Prop}{k:Ck}(h2:(match k with| .o=>aq|_=>ak)=ak):cZ E w K (im k) (yB k):=by
 cases k with
 |o=>cases h2
 |i k=>exact .i _ _
 |b=>exact .b _
 |s=>exact .s _ (bL _)
 |l e=>exact .nl _ _ _
theorem Xg{k:Ck}(h2:(match k with| .o=>aq|_=>ak)=ak):(yB k).kd=k:=by cases k<;>first|rfl|cases h2
theorem wy{ks:aA Ck}(hn:JI ks=ak)(n:aG):∀y∈aT ks n,y.map CV.kd=ks:=by
 intro y hy;rw[(List.mem_replicate.1 hy).2,jW];have:∀k∈ks,(CV.kd∘yB) k=k:=λk hk=>Xg (bn.1 hn k hk);conv=>rhs;rw[<-List.map_id ks]
 exact vi this
theorem tB{ks:aA Ck}{n i j:aG}{y:aA CV}{x:CV}(hi:(aT ks n)[i]? =aj y)(hj:y[j]? =aj x):i<n/\∃k,ks[j]? =aj k/\x=yB k:=by
 unfold aT at hi;have jG:=(aU.1 hi).1;rw[List.length_replicate]at jG;rw[List.getElem?_replicate,bC jG]at hi;cases hi;rw[bE]at hj;cases hk:ks[j]? with
 |none=>rw[hk]at hj;cases hj
 |some k=>rw[hk]at hj;cases hj;exact⟨jG,k,rfl,rfl⟩
theorem lj{ks:aA Ck}{n i j:aG}{k:Ck}(hi:i<n)(hk:ks[j]? =aj k):(madeCells (ks.map im).toArray (n*ks.length))[i*ks.length+j]? =aj (im k):=by
 have hj:=(aU.1 hk).1;have jG:i*ks.length+j<n*ks.length:=by have:(i+1)*ks.length<=n*ks.length:=b7 _ hi;rw[dc]at this;omega
 have hm:(i*ks.length+j)%ks.length=j:=by rw[CS,Nat.mul_add_mod];exact Nat.mod_eq_of_lt hj
 unfold madeCells;rw[Mt,Array.getElem?_range,bC jG,iS];congr 1;simp only[TE,bQ,hm];rw[getElem!_def,gU,bE,hk];rfl
theorem xU{P:cR}{E:fF}{σ:St}(hE:eg P E){t:aG}{k:mH}(h:(pw E t).val σ=aj (.i k)):P.underlying t=aj (.int k):=by obtain⟨ti,h1,h2,h3⟩:=qQ h;obtain⟨d,hd,_,hn⟩:=hE.desc t ti h1;rcases hn h2 with ⟨k,h,rfl⟩|⟨h,_⟩|⟨h,_⟩|⟨e',h,_⟩|⟨h,_⟩<;>rw[h3]at h<;>simp_all
theorem K5{P:cR}{E:fF}(hE:eg P E){e:aG}{te:TI}(ht:E.ty e=aj te)(h:(u8s te.ks&& !te.agg)=ak):te.ks=[.i .u8]/\P.underlying e=aj (.int .u8):=by
 simp only[aK,dG]at h;have hk:te.ks=[.i .u8]:=by
  have:=h.1;unfold u8s at this;split at this
  ·assumption
  ·cases this
 obtain⟨d,hd,_,hn⟩:=hE.desc e te ht;refine⟨hk, ?_⟩
 rcases hn h.2 with ⟨k,h,rfl⟩|⟨h,_⟩|⟨h,_⟩|⟨e',h,_⟩|⟨h,_⟩<;>rw[hk]at h<;>simp_all
section
variable {P:cR} {E:fF} {σ:St} {a:Act} {w:bF} {c:eO} {o:e8} {nm:aG} {e:rT}
theorem NF(hE:eg P E){src dst el:aG}{te:TI}(hs:P.underlying src=aj (.slice el))(hd:P.underlying dst=aj .string)(he:P.underlying el=aj (.int .u8))(hk:te.ks=[.i .u8]){v:bg}{xs:aW}
  (h:nL w v xs te.ks.length (λ_ _ u x=>Sc u x)) (ma:∀y∈xs,y.map CV.kd=te.ks):(convert src dst v).run P w= .ok (.string (bytesOf xs)) w:=by
 obtain⟨A,cp,rfl,h2⟩:=h;by_cases hx:xs=[]
 ·subst hx;rw[ju];have e0:bytesOf []=FL:=rfl;rw[e0];cases A with
  |none=>exact run_convert_bytes_nil w src el hs he 0 cp dst hd
  |some ad'=>rw[run_convert_bytes_string w src dst el _ 0 cp hs he hd];exact run_bytesToString w ad' 0 cp [] rfl
 ·obtain⟨b,oo,rfl,h3⟩:=h2 hx;have:=run_convert_bytes_arg w src el hs he b oo xs.length cp (xs.map λy=>bY (y.getD 0 (.b aq))) (by simp) (λi hi=>by
   have hy:=ma xs[i] (bD hi);rw[hk]at hy;cases hq:xs[i]with
   |nil=>rw[hq]at hy;cases hy
   |cons x r=>
    rw[hq]at hy;simp only[e9,XM,List.map_eq_nil_iff]at hy;obtain⟨hx1,rfl⟩:=hy;obtain⟨u,hu,hr⟩:=h3 i xs[i] 0 x (by simp[hi]) (by rw[hq];rfl);rw[hk]at hu;simp only[c7,ju,bT,Nat.mul_one,wP]at hu;rw[hu,hr.1];cases x with
    |i k n=>cases hx1;simp[NJ,jt,hi,hq,bY]
    |_=>cases hx1) dst hd
  rw[this];unfold strOfNums bytesOf;rw[jW];rfl
theorem iy(xs:aW):(bytesOf xs).size=xs.length:=by unfold bytesOf;simp[c5]
theorem lE(s:au):(qm s).length=s.size:=by unfold qm;simp
theorem Fq{s:au}{i j:aG}{y:aA CV}{x:CV}(hi:(qm s)[i]? =aj y)(hj:y[j]? =aj x):j=0/\∃b,s.data[i]? =aj b/\x= .i .u8 (b.toNat:az):=by
 unfold qm at hi;rw[bE,cQ]at hi;cases hb:s.data[i]? with
 |none=>rw[hb]at hi;cases hi
 |some b=>
  rw[hb]at hi;cases hi;cases j with
  |zero=>cases hj;exact⟨rfl,b,rfl,rfl⟩
  |succ j=>simp at hj
theorem HK(s:au):∀y∈qm s,y.map CV.kd=[.i .u8]:=by intro y hy;obtain⟨b,_,rfl⟩:=cJ.1 hy;rfl
theorem JL(hE:eg P E)(b8:Ok E σ w c)(dD:e_ E σ a w c)(hd:∀d,o.dst=aj d->d<a.tmps.size){src dst:aG}{x:dr}(ho:o.op= .convert src dst x)(h:(lF E nm o).val σ=aj e)(hc:e.cond=ak):gD P E σ a w c o e.ws:=by
 simp only[lF,ho]at h;obtain⟨ks,h1,h⟩:=Rd.bind_some h;obtain⟨kd,h2,h⟩:=Rd.bind_some h;obtain⟨v,h3,h⟩:=Rd.bind_some h;obtain⟨ev,kv⟩:=iJ dD h3;have exec:∀{u r:bg} {w':bF},a.eval x=u->(convert src dst u).run P w= .ok r w'->(execOp a.eval o).run P w= .ok (.value r) w':=by intro u r w' hu hr;unfold execOp;rw[ho];exact iF (by rw[hu];exact hr)
 cases kd with
 |i k=>
  cases ks with
  |i k0=>
   cases v with
   |i k1 n=>refine fP b8 dD hd h (v:= .int k (k.wrap n)) rfl (λn hn=>by simp[cD,bJ]at hn) (exec ev ?_);simp[convert,run_underlying (xU hE h1),run_underlying (xU hE h2),Conv.intToInt]
   |_=>simp at h
  |_=>simp at h
 |s=>
  have A0:=kJ hE h2;cases ks with
  |s=>
   cases v with
   |s s=>refine fP b8 dD hd h (v:= .string s) ⟨rfl,ev.2⟩ (λn hn=>by simp[cD,bJ]at hn) (exec ev.1 ?_);simp[convert,run_underlying (kJ hE h1),run_underlying A0]
   |_=>simp at h
  |l el=>
   have Cz:=kg hE h1;have gen:(∀e,v=e->((lU E e).bind λ(e,xs)=>(rO E e).bind λte=>bif bA e el&&u8s te.ks&& !te.agg then Kd o (decide (xs.length<=4611686018427387904)) (.s (bytesOf xs))else .fail).val σ=aj ‹rT›)->gD P E σ a w c o (‹rT›).ws:=by
    intro h;obtain⟨⟨e1,xs⟩,q1,h⟩:=Rd.bind_some (h v rfl);obtain⟨te,q2,h⟩:=Rd.bind_some h;have q2:=dS q2;obtain⟨q3,h9⟩:=cE h;rw[mY,aK]at q3;have:=aX q3.1;subst this;obtain⟨q4,q5⟩:=K5 hE q2 q3.2;have hp:plain te.ks=true:=by rw[q4];rfl
    obtain⟨r1,r2,r3⟩:=yW b8 ev q1 q2 hp;exact DI b8 dD hd h9 hc (v:= .string (bytesOf xs)) (λhb=>⟨rfl,by unfold F2;rw[iy];exact b9 hb⟩) (s9 rfl) (λ_=>exec rfl (NF hE Cz A0 q5 q4 r1 r2))
   cases v with
   |nl=>obtain⟨te,q1,h⟩:=Rd.bind_some h;obtain⟨q3,h⟩:=cE h;obtain⟨q4,q5⟩:=K5 hE (dS q1) q3;exact fP b8 dD hd h (v:= .string FL) ⟨rfl,bL _⟩ (λn hn=>by simp[cD,bJ]at hn) (exec ev (run_convert_bytes_nil w src el Cz q5 0 0 dst A0))
   |_=>exact gen (λ_ hv=>by cases hv;exact h)
  |_=>simp at h
 |_=>simp at h
theorem Fg(hE:eg P E)(b8:Ok E σ w c)(dD:e_ E σ a w c)(hd:∀d,o.dst=aj d->d<a.tmps.size){t:aG}{x y:dr}(ho:o.op= .makeSlice t x y)(h:(lF E nm o).val σ=aj e)(hc:e.cond=ak):gD P E σ a w c o e.ws:=by
 simp only[lF,ho]at h;obtain⟨⟨k1,n⟩,h1,h⟩:=Rd.bind_some h;obtain⟨⟨k2,m⟩,h2,h⟩:=Rd.bind_some h;obtain⟨ti,h3,h⟩:=Rd.bind_some h;have ex:=py dD h1;have ey:=py dD h2;have h3:=dS h3;split at h
 ·rename_i el s7 zq;obtain⟨te,h4,h⟩:=Rd.bind_some h;have h4:=dS h4;obtain⟨h5,h⟩:=cE h;obtain⟨u,h6,h⟩:=Rd.bind_some h;obtain⟨hf,jG⟩:=j9 h6;obtain rfl:=aF h;generalize (bif plain te.ks then nm else nm+999)=nm at hf jG hc⊢;simp only[aK,bf,cK]at hc h5;obtain⟨⟨c0,rfl⟩,c1,c2⟩:=hc;obtain⟨uS,Lp⟩:=h5;have hu:=oG hE h3 s7 zq;obtain⟨inf,hi,fX,hby,kH,hz⟩:=hE.info el te h4;obtain⟨z,Ih,CB,_⟩:=hz uS;have hr:=run_make (P:=P) w t el inf z hu hi Ih k1 k2 n n c0 (Int.le_refl _) (by
   have e1:((n.toNat*te.bytes:aG):az)<=140737488355328:=(by generalize n.toNat*te.bytes=q at c1⊢;omega)
   rw[hby,Int.mul_comm];rw[Ub,Int.toNat_of_nonneg c0]at e1;omega) (by omega)
  rw[CB,fX]at hr;refine AZ b8 dD hd (p:=⟨aq,w.heap.size,0,n.toNat,n.toNat,te.ks.length⟩) (g:=JG E te.ks) hf jG (λc' hP hG _ _=> ?_) (λc' hP hG b hb=> ?_) (λxs hx b hb=>by cases hx) (λc' hP _=> ?_) (λn hn=> .inl (by simpa [cD,bJ]using hn)) (λb hb=>heap_alloc_old w _ b hb) (by simp) rfl rfl rfl (v:= .slice (aj ⟨w.heap.size,0,ao⟩) n.toNat n.toNat) (w':=w.alloc (.cells (madeCells (te.ks.map im).toArray (n.toNat*te.ks.length)) el)) ?_
  ·refine⟨⟨te,h4,by rw[hP],wy uS _⟩, ?_,λ_=>uU (λi j=>(by rw[hG];try rfl))⟩
   rw[hP,hG];refine⟨by simp[aT],λhn=>(by cases hn),λ_=>⟨_,nq.alloc w _ el,cu _,(by show n.toNat<=2^63-1;omega),by rw[size_madeCells];simp,λi y j x hi hj=> ?_⟩⟩
   obtain⟨gQ,k,hk,rfl⟩:=tB hi hj;refine⟨im k, ?_,by rw[bC rfl];exact Mr Lp uS hk⟩
   rw[bT];exact lj gQ hk
  ·rcases hb with ⟨_,rfl⟩|⟨_,i,j,_,hn,_⟩
   ·rw[hP];exact cu _
   ·rw[hG]at hn;cases hn
  ·show _=lh _;rw[hP];rfl
  ·unfold execOp;rw[ho];exact iF (by rw[ex,ey];exact hr)
 ·simp at h
end
end Go.FG

namespace Go.FG
theorem jz{xs:aW}{i j:aG}{cs:aA CV}:(eA xs i j cs).length=xs.length:=by unfold eA;simp
theorem we{xs:aW}{i j:aG}{cs y:aA CV}(hy:xs[i]? =aj y)(i':aG):(eA xs i j cs)[i']? =if i'=i then aj (iG y j cs)else xs[i']? :=by
 have jG:=(aU.1 hy).1;have hd:xs.getD i []=y:=by rw[cL,hy];rfl
 unfold eA;rw[NU,hd];by_cases h:i'=i
 ·subst h;simp[jG]
 ·rw[bM h,bM (λe=>h e.symm)]
theorem nq.uniq{w:bF}{b:aG}{v1 v2:di bg}(h1:nq w b v1)(h2:nq w b v2):v1=v2:=by obtain⟨t,fr,h1,_⟩:=h1;obtain⟨t',fr',h2,_⟩:=h2;rw[h1]at h2;cases h2;rfl
theorem iV.pos{w:bF}{p:Pl}{xs:aW}{R:aG->aG->bg->CV->Prop}(h:iV w p xs R){i:aG}(hi:i<p.n):p.nil=aq/\∃vals,nq w p.blk vals:=by
 have jg:p.nil=false:=by
  cases hn:p.nil with
  |false=>rfl
  |true=>have:=(h.nil hn).1;subst this;have:=h.n;simp at this;omega
 obtain⟨vals,hb,_⟩:=h.mem jg;exact⟨jg,vals,hb⟩
theorem iV.ag_{w:bF}{p:Pl}{xs:aW}{R R':aG->aG->bg->CV->Prop}(h:iV w p xs R){vals:di bg}(hbv:nq w p.blk vals)(hs:∀y∈xs,y.length=p.sz){i j:aG}{cs:aA CV}{vs:aA bg}(hi:i<p.n)(hj:j+cs.length<=p.sz)(hl:vs.length=cs.length)
  (xR:∀(q:aG) (x:CV),cs[q]? =aj x->∃u:bg,vs[q]? =aj u/\R' i (j+q) u x)
  (hold:∀(i1:aG) (y:aA CV) (j1:aG) (x:CV) (u:bg),xs[i1]? =aj y->y[j1]? =aj x->(i1≠i\/¬(j<=j1/\j1<j+cs.length))->R i1 j1 u x->R' i1 j1 u x):
  p.off+i*p.sz+j+vs.length<=vals.size/\iV (w.setRow p.blk (dY vals (p.off+i*p.sz+j) vs)) p (eA xs i j cs) R':=by
 have jg:p.nil=false:=by
  cases hn:p.nil with
  |false=>rfl
  |true=>have:=(h.nil hn).1;subst this;have:=h.n;simp at this;omega
 obtain⟨iN,hb,QC,Qv,nD,hc⟩:=h.mem jg;obtain rfl:=hbv.uniq hb;have lD:i<xs.length:=by rw[<-h.n];exact hi
 have hy:xs[i]? =aj xs[i]:=by simp[lD]
 have Hj:=hs xs[i] (bD lD);have h1:(i+1)*p.sz<=p.cap*p.sz:=b7 _ (by omega);rw[dc]at h1;have uc:p.off+i*p.sz+j+vs.length<=vals.size:=by omega
 refine⟨uc,⟨by rw[jz];exact h.n,λhn=>(by rw[jg]at hn;cases hn),λ_=> ?_⟩⟩
 refine⟨_,hb.setRow (eS uc),QC,Qv,by rw[eS uc];exact nD,λi' y j' x lK M1=> ?_⟩
 rw[we hy]at lK;rw[gd uc];by_cases G_:i'=i
 ·subst G_;rw[bC rfl]at lK;cases lK;rw[oQ (by omega)]at M1;by_cases hq:j<=j'/\j'<j+cs.length
  ·rw[bC hq]at M1;rw[bC (by omega)];obtain⟨u,hu,hr⟩:=xR (j'-j) x M1;refine⟨u, ?_, ?_⟩
   ·rw[<-hu];congr 1;omega
   ·rwa[show j+(j'-j)=j' by omega]at hr
  ·rw[bM hq]at M1;obtain⟨u,hu,hr⟩:=hc _ _ _ _ hy M1;exact⟨u,by rw[bM (by omega)];exact hu,hold _ _ _ _ _ hy M1 (.inr hq) hr⟩
 ·rw[bM G_]at lK;obtain⟨u,hu,hr⟩:=hc _ _ _ _ lK M1;refine⟨u, ?_,hold _ _ _ _ _ lK M1 (.inl G_) hr⟩
  have N5:j'<p.sz:=by rw[<-hs y (aQ lK)];exact(aU.1 M1).1
  rw[bM ?_];exact hu;rcases NW G_ with jG|hgt
  ·have:(i'+1)*p.sz<=i*p.sz:=b7 _ jG;rw[dc]at this;omega
  ·have:(i+1)*p.sz<=i'*p.sz:=b7 _ hgt;rw[dc]at this;omega
theorem iV.put{w:bF}{p:Pl}{xs:aW}{R R':aG->aG->bg->CV->Prop}(h:iV w p xs R){vals:di bg}(hbv:nq w p.blk vals)(hs:∀y∈xs,y.length=p.sz){i j:aG}{cs:aA CV}{vs:aA bg}(hi:i<p.n)(hj:j+cs.length<=p.sz)(hl:vs.length=cs.length)
  (xR:∀(q:aG) (x:CV),cs[q]? =aj x->∃u:bg,vs[q]? =aj u/\R' i (j+q) u x)
  (hold:∀(i:aG) (y:aA CV) (j:aG) (x:CV) (u:bg),xs[i]? =aj y->y[j]? =aj x->R i j u x->R' i j u x):
  p.off+i*p.sz+j+vs.length<=vals.size/\iV (w.setRow p.blk (dY vals (p.off+i*p.sz+j) vs)) p (eA xs i j cs) R':=
 h.ag_ hbv hs hi hj hl xR (λi1 y j1 x u h1 h2 _ hr=>hold i1 y j1 x u h1 h2 hr)
theorem kI{xs:aW}{ks:aA Ck}(h:∀y∈xs,y.map CV.kd=ks)(i j:aG):fZ xs i j↔i<xs.length/\∃e,ks[j]? =aj (.l e):=by
 constructor
 ·rintro ⟨y,x,hy,hx,hl⟩;refine⟨(aU.1 hy).1, ?_⟩
  cases x with
  |l e ys=>exact⟨e,by rw[<-h y (aQ hy),bE,hx];rfl⟩
  |i=>simp[s8]at hl
  |b=>simp[s8]at hl
  |s=>simp[s8]at hl
 ·rintro ⟨hi,e,hk⟩;have hy:xs[i]? =aj xs[i]:=by simp[hi]
  have h1:=h xs[i] (bD hi);rw[<-h1,bE]at hk;cases hx:xs[i][j]? with
  |none=>rw[hx]at hk;cases hk
  |some x=>
   rw[hx]at hk;cases x with
   |l e2 ys=>exact⟨_,_,hy,hx,rfl⟩
   |i=>cases hk
   |b=>cases hk
   |s=>cases hk
theorem Nb{y cs:aA CV}{ks:aA Ck}{j:aG}(hy:y.map CV.kd=ks)(hc:cs.map CV.kd=(ks.drop j).take cs.length)(hj:j+cs.length<=ks.length):(iG y j cs).map CV.kd=ks:=by
 have hl:y.length=ks.length:=by rw[<-hy];simp
 apply TC;intro q;rw[bE,oQ (by omega)];split
 ·rename_i h;have:(cs.map CV.kd)[q-j]? =((ks.drop j).take cs.length)[q-j]? :=by rw[hc]
  rw[bE]at this;rw[this,dV,bC (by omega),dM];congr 1;omega
 ·rw[<-hy,bE]
theorem wh{xs:aW}{ks:aA Ck}{i j:aG}{cs:aA CV}(h:∀y∈xs,y.map CV.kd=ks)(hc:cs.map CV.kd=(ks.drop j).take cs.length)(hj:j+cs.length<=ks.length)(hi:i<xs.length):∀y∈eA xs i j cs,y.map CV.kd=ks:=by
 intro y hy;obtain⟨q,hq⟩:=bZ hy;rw[we (y:=xs[i]) (by simp[hi])]at hq;split at hq
 ·cases hq;exact Nb (h _ (bD hi)) hc hj
 ·exact h y (aQ hq)
section
variable {P:cR} {E:fF} {σ:St} {a:Act} {w:bF} {c:eO} {o:e8} {nm:aG} {e:rT}
theorem xN{ex:aY}{k:Ck}{x:AV}{cv:CV}{ws:aA (aG×eE)}{u:bg}(hp:plain [k]=ak)(h:(GR ex k x).val σ=aj (cv,ws))(hx:ej E w c x u):cv.kd=k/\Sc u cv/\s8 cv=aq/\ws=[]:=by
 cases k with
 |i k=>
  cases x with
  |i k' n=>
   replace h:(if k=k' then Rd.ret (CV.i k n,[])else .fail:Rd (CV×aA (aG×eE))).val σ=aj (cv,ws):=h;split at h
   ·rename_i hk;subst hk;obtain⟨rfl,rfl⟩:=bU (aF h);exact⟨rfl,⟨hx,trivial⟩,rfl,rfl⟩
   ·simp at h
  |_=>simp[GR]at h
 |b=>
  cases x with
  |b n=>obtain⟨rfl,rfl⟩:=bU (aF h);exact⟨rfl,⟨hx,trivial⟩,rfl,rfl⟩
  |_=>simp[GR]at h
 |s=>
  cases x with
  |s n=>obtain⟨rfl,rfl⟩:=bU (aF h);exact⟨rfl,hx,rfl,rfl⟩
  |_=>simp[GR]at h
 |l=>simp[plain]at hp
 |o=>simp[plain]at hp
theorem AO{ex:aY}:∀{ks:aA Ck} {xs:aA AV} {cs:aA CV} {ws:aA (aG×eE)} (hp:plain ks=ak) (h:(xO ex ks xs).val σ=aj (cs,ws)),cs.map CV.kd=ks/\cs.length=xs.length/\ws=[]/\
  ∀(vals:di bg),fQ E w c vals xs->∀(q:aG) (x:CV),cs[q]? =aj x->vals[q]? =aj (NJ x)/\s8 x=aq/\okC x:=by
 intro ks;induction ks with
 |nil=>
  intro xs cs ws hp h;cases xs with
  |nil=>obtain⟨rfl,rfl⟩:=bU (aF h);exact⟨rfl,rfl,rfl,λ_ _ q x hq=>by simp at hq⟩
  |cons=>simp[xO]at h
 |cons k ks ih=>
  intro xs cs ws hp h;cases xs with
  |nil=>simp[xO]at h
  |cons x xs=>
   obtain⟨⟨cv,w1⟩,h1,h⟩:=Rd.bind_some h;obtain⟨⟨cr,w2⟩,h2,h⟩:=Rd.bind_some h;obtain⟨rfl,rfl⟩:=bU (aF h);simp only[plain,rW,aK]at hp;have M9:plain [k]=true:=by simp[plain,hp.1]
   have hp2:plain ks=true:=hp.2;obtain⟨i1,i2,i3,i4⟩:=ih hp2 h2;have e1:=λu (hu:ej E w c x u)=>xN M9 h1 hu;have YN:cv.kd=k/\w1=[]:=by
    cases k<;>cases x<;>simp[GR,plain]at h1 M9<;>first
     |(obtain⟨rfl,rfl⟩:=h1;exact⟨rfl,rfl⟩)
     |(split at h1<;>simp at h1;rename_i hk;subst hk;obtain⟨rfl,rfl⟩:=h1;exact⟨rfl,rfl⟩)
   refine⟨by simp[YN.1,i1],by simp[i2],by rw[YN.2,i3];rfl,λvals hv q y hq=> ?_⟩
   cases q with
   |zero=>cases hq;obtain⟨u,hu,ha⟩:=hv.2 0 x rfl;obtain⟨_,⟨rfl,ho⟩,hl,_⟩:=e1 u ha;exact⟨hu,hl,ho⟩
   |succ q=>
    have Lw:fQ E w c (vals.extract 1 vals.size) xs:=by
     refine⟨by simp;have:=hv.1;simp at this;omega,λj b hj=> ?_⟩
     obtain⟨u,hu,hb⟩:=hv.2 (j+1) b hj;refine⟨u, ?_,hb⟩
     have:=(dQ.1 hu).1;rw[dW,bC (by omega),iL];exact hu
    obtain⟨r1,r2⟩:=i4 _ Lw q y hq;refine⟨?_,r2⟩
    rw[dW]at r1;split at r1
    ·rw[iL];exact r1
    ·cases r1
theorem W4{s:Sem Unit}{w':bF}(hr:s.run P w= .ok () w'):(do s;pure Next.skip:Sem Next).run P w= .ok .skip w':=by simp only[cg,hr,bB,cM]
theorem Dy:∀{ys:aA AV} {q0 q n2:aG},xZ q0 ys=aj (q,n2)->q0<=q/\ys[q-q0]? =aj (.own n2)/\∀(k m:aG),ys[k]? =aj (.own m)->k=q-q0:=by
 have Ws:∀{ys:aA AV},HA ys=ak->∀(k m:aG),ys[k]? ≠aj (.own m):=by
  intro ys;induction ys with
  |nil=>intro h k m h;simp at h
  |cons y ys ih=>
   intro h k m hk;cases y with
   |own n=>cases h
   |_=>
    cases k with
    |zero=>cases hk
    |succ k=>exact ih (by simpa [HA]using h) k m hk
 intro ys;induction ys with
 |nil=>intro q0 q n2 h;cases h
 |cons y ys ih=>
  intro q0 q n2 h;have step:xZ (q0+1) ys=aj (q,n2)->(∀m,y≠ .own m)->q0<=q/\(y::ys)[q-q0]? =aj (.own n2)/\∀(k m:aG),(y::ys)[k]? =aj (.own m)->k=q-q0:=by
   intro h hy;obtain⟨h1,h2,h3⟩:=ih h;have e:q-q0=(q-(q0+1))+1:=by omega
   refine⟨by omega,by rw[e,dI];exact h2,λk m hk=> ?_⟩
   cases k with
   |zero=>cases hk;exact cq rfl (hy m)
   |succ k=>have:=h3 k m hk;omega
  cases y with
  |own n=>
   unfold xZ at h;cases h1:HA ys with
   |false=>rw[h1]at h;cases h
   |true=>
    rw[h1]at h;cases h;refine⟨cu _,by rw[wQ];rfl,λk m hk=> ?_⟩
    cases k with
    |zero=>omega
    |succ k=>exact cq hk (Ws h1 k m)
  |_=>exact step (by simpa [xZ]using h) (λm h=>by cases h)
theorem UA{E:fF}{w:bF}{c:eO}{e2 n2:aG}{zs:aW}:∀{ks:aA Ck} {ys:aA AV} {cs:aA CV},Cq e2 n2 zs ks ys=aj cs->cs.map CV.kd=ks/\cs.length=ys.length/\
  ∀(q:aG) (x:CV),cs[q]? =aj x->∃y,ys[q]? =aj y/\((s8 x=aq/\∀u,ej E w c y u->Sc u x)\/(x= .l e2 zs/\y= .own n2)):=by
 intro ks;induction ks with
 |nil=>
  intro ys cs h;cases ys with
  |nil=>cases h;exact⟨rfl,rfl,λq x h=>by simp at h⟩
  |cons=>cases h
 |cons k ks ih=>
  intro ys cs h
  have go:∀{y:AV} {r:aA AV} {x:CV},ys=y::r->(Cq e2 n2 zs ks r).map (x:: ·)=aj cs->x.kd=k->((s8 x=aq/\∀u,ej E w c y u->Sc u x)\/(x= .l e2 zs/\y= .own n2))->
    cs.map CV.kd=k::ks/\cs.length=ys.length/\∀(q:aG) (x:CV),cs[q]? =aj x->∃y,ys[q]? =aj y/\((s8 x=aq/\∀u,ej E w c y u->Sc u x)\/(x= .l e2 zs/\y= .own n2)):=by
   intro y r x hy hm hk hx
   subst hy
   cases hr:Cq e2 n2 zs ks r with
   |none=>rw[hr]at hm;cases hm
   |some cr=>
    rw[hr]at hm;cases hm;obtain⟨i1,i2,i3⟩:=ih hr;refine⟨by simp[hk,i1],by simp[i2],λq z hq=> ?_⟩
    cases q with
    |zero=>cases hq;exact⟨y,rfl,hx⟩
    |succ q=>exact i3 q z hq
  cases ys with
  |nil=>cases k<;>cases h
  |cons y r=>
   cases k with
   |i k=>
    cases y with
    |i k' n=>
     unfold Cq at h;split at h
     ·rename_i hk;subst hk;exact go rfl h rfl (.inl ⟨rfl,λu hu=>⟨hu,trivial⟩⟩)
     ·cases h
    |_=>cases h
   |b=>
    cases y with
    |b n=>exact go rfl h rfl (.inl ⟨rfl,λu hu=>⟨hu,trivial⟩⟩)
    |_=>cases h
   |s=>
    cases y with
    |s n=>exact go rfl h rfl (.inl ⟨rfl,λu hu=>hu⟩)
    |_=>cases h
   |l e=>
    cases y with
    |own n=>
     unfold Cq at h;cases hb:(bA e e2&&bA n n2)with
     |false=>rw[hb]at h;cases h
     |true=>rw[hb,ay]at h;simp only[aK]at hb;have:=aX hb.1;subst this;have:=aX hb.2;subst this;exact go rfl h rfl (.inr ⟨rfl,rfl⟩)
    |_=>cases h
   |o=>cases y<;>cases h
theorem MU(b8:Ok E σ w c)(dD:e_ E σ a w c)(hd:∀d,o.dst=aj d->d<a.tmps.size){n i j:aG}{ys:aA AV}{ws:aA (aG×eE)}{X:di bg}(hF:xT n=ak)(hi:i<(c.P n).n)(h:(Fw E n i j ys).val σ=aj ws)(ng:fQ E w c X ys)(kH:0<ys.length)
  (exec:∀(cur:di bg),nq w (c.P n).blk cur->(c.P n).off+i*(c.P n).sz+j+X.size<=cur.size->(execOp a.eval o).run P w= .ok .skip (w.setRow (c.P n).blk (dY cur ((c.P n).off+i*(c.P n).sz+j) X.toList))):gD P E σ a w c o (ws++dw o .un):=by
 unfold Fw at h;obtain⟨ob,hg0,h⟩:=Rd.bind_some h;have hg:=dt hg0;split at h
 ·rename_i el xs;obtain⟨te,h6,h⟩:=Rd.bind_some h;have h6:=dS h6;split at h
  ·rename_i q n2 vO;cases hb0:bA n n2 with
   |true=>rw[hb0]at h;simp at h
   |false=>
    rw[hb0,aD]at h;have ic:n≠n2:=λe=>by subst e;rw[Nat.beq_refl]at hb0;cases hb0
    obtain⟨ob2,amD,h⟩:=Rd.bind_some h;have X1:=dt amD;split at h
    ·rename_i e2 zs;obtain⟨t2,h7,h⟩:=Rd.bind_some h;have h7:=dS h7;obtain⟨h8,h⟩:=cE h;simp only[aK]at h8;obtain⟨ry,hle⟩:=h8;have hle:=cC hle;split at h
     ·rename_i cs FW;obtain rfl:=aF h;obtain⟨m1,m2,m3⟩:=UA (E:=E) (w:=w) (c:=c) FW;obtain⟨_,_,hu⟩:=Dy vO;rw[uD]at hu;obtain⟨⟨t1,q1,fX,ma⟩,fW,gQ⟩:=b8.obj n _ hg;obtain rfl:te=t1:=aF (h6.symm.trans q1);obtain⟨⟨t3,q3,Jv,Cy⟩,n8,_⟩:=b8.obj n2 _ X1;obtain rfl:t2=t3:=aF (h7.symm.trans q3);have jF:j+cs.length<=te.ks.length:=by rw[m2];exact hle
      have hkd:cs.map CV.kd=(te.ks.drop j).take cs.length:=by rw[m1,m2]
      have lD:i<xs.length:=by rw[<-fW.n];exact hi
      obtain⟨jg,vals,hb⟩:=fW.pos hi;have Ha:=kI ma;have rM:=wh ma hkd jF lD;have A1:=kI rM;have same:∀i' j',fZ (eA xs i j cs) i' j'->fZ xs i' j':=λi' j' hx=>(Ha i' j').2 (by have:=(A1 i' j').1 hx;rwa[jz]at this);have Hj:∀y∈xs,y.length=(c.P n).sz:=λy hy=>by rw[fX,<-ma y hy];simp
      let w':=w.setRow (c.P n).blk (dY vals ((c.P n).off+i*(c.P n).sz+j) X.toList);have qP:∀b,b≠(c.P n).blk->w'.heap[b]? =w.heap[b]? :=λb hb=>setRow_other w _ b _ hb;have apc:∀i j,¬fZ zs i j:=by rintro i j ⟨y,x,h1,h2,h3⟩;rw[gX ry (Cy y (aQ h1)) h2]at h3;cases h3
      have Wy:(c.P n2).nil=aq->fu c n2 (.row e2 ak zs) (c.P n2).blk:=λhn=> .inl ⟨hn,rfl⟩;have JR:fu c n (.row el ak xs) (c.P n).blk:= .inl ⟨jg,rfl⟩;have afR:(c.P n2).nil=aq->(c.P n2).blk≠(c.P n).blk:=λhn he=>ic (b8.sep n _ n2 _ _ hg X1 JR (by rw[<-he];exact Wy hn));let c':eO:=⟨c.P,λm i' j'=>if m=n/\i'=i/\j'=j+q then c.P n2 else c.G m i' j',c.K⟩
      have hG1:c'.G n i (j+q)=c.P n2:=bC ⟨rfl,rfl,rfl⟩;have hG2:∀i' j',¬(i'=i/\j'=j+q)->c'.G n i' j'=c.G n i' j':=λi' j' h=>bM (λe=>h ⟨e.2.1,e.2.2⟩);have hG3:∀m,m≠n->c'.G m=c.G m:=λm hm=>by funext i' j';exact bM (λe=>hm e.1)
      have Vb:∀i' j',fZ (eA xs i j cs) i' j'->(c'.G n i' j').nil=aq->(i'=i/\j'=j+q/\(c.P n2).nil=aq/\(c'.G n i' j').blk=(c.P n2).blk)\/(¬(i'=i/\j'=j+q)/\(c.G n i' j').nil=aq/\(c'.G n i' j').blk=(c.G n i' j').blk/\fu c n (.row el ak xs) (c.G n i' j').blk):=by
       intro i' j' hh hn;by_cases he:i'=i/\j'=j+q
       ·obtain⟨rfl,rfl⟩:=he;rw[hG1]at hn⊢;exact .inl ⟨rfl,rfl,hn,rfl⟩
       ·rw[hG2 i' j' he]at hn⊢;exact .inr ⟨he,hn,rfl, .inr ⟨rfl,i',j',same i' j' hh,hn,rfl⟩⟩
      obtain⟨nD,zn⟩:=iV.ag_ (R':=λi1 j1 u1 x1=>if ak=ak then XC E w' (c'.G n) i1 j1 u1 x1 else cZ E w' c'.K u1 x1) fW hb Hj (i:=i) (j:=j) (cs:=cs) (vs:=X.toList) hi (by rw[fX];exact jF) (by rw[dN,ng.1,m2])
       (λk x hk=>by
        obtain⟨y,hy,hxy⟩:=m3 k x hk;obtain⟨u,hu1,hu2⟩:=ng.2 k y hy;refine⟨u,by rw[cQ];exact hu1, ?_⟩
        rw[bC rfl];rcases hxy with ⟨hl,hsc⟩|⟨rfl,rfl⟩
        ·exact tu hl (hsc u hu2)
        ·have uR:k=q:=hu k n2 hy;subst uR;have hu2:u=lh (c.P n2):=hu2;refine⟨by rw[hG1];exact hu2,t2,h7,ry,by rw[hG1];exact Jv,Cy, ?_⟩
         rw[hG1];exact n8.frame (λhn=>qP _ (afR hn)) (λi1 j1 y1 x1 u1 g1 g2 hr=>by rw[bC rfl]at hr;exact tw hr (gX ry (Cy y1 (aQ g1)) g2)))
       (λi1 y1 j1 x1 u1 h1 h2 am4 hr=>by
        rw[bC rfl]at hr⊢;have Cx:XC E w' (c.G n) i1 j1 u1 x1:=hr.frame (λhl hn=>qP _ ((gQ rfl).out i1 j1 ⟨y1,x1,h1,h2,hl⟩ hn jg));have amS:¬(i1=i/\j1=j+q):=by
         rintro ⟨rfl,rfl⟩;have hq:q<cs.length:=by obtain⟨_,hq,_⟩:=Dy vO;rw[uD]at hq;rw[m2];exact(aU.1 hq).1
         rcases am4 with h|h
         ·exact h rfl
         ·exact h ⟨by omega,by omega⟩
        cases x1 with
        |l ee zz=>obtain⟨r1,r2⟩:=Cx;unfold XC;rw[hG2 i1 j1 amS];exact⟨r1,r2⟩
        |i=>exact Cx
        |b=>exact Cx
        |s=>exact Cx)
      have hr:=exec vals hb (by rw[dN]at nD;exact nD);let σ1:=o_ (o_ σ (cX n) (.o (.row el ak (eA xs i j cs)))) (cX n2) (.o .dead);obtain⟨s1,s2,s3⟩:=qZ σ1 o .un;have key:∀m,wr σ1 (dw o .un) (cX m)=if m=n2 then .o .dead else if m=n then .o (.row el ak (eA xs i j cs))else σ (cX m):=λm=>by rw[s3];show(o_ (o_ σ (cX n) (.o (.row el ak (eA xs i j cs)))) (cX n2) (.o .dead)) (cX m)=_;rw[pB,pB]
      have aff:∀m,σ (cX m)≠ .jH->wr σ1 (dw o .un) (cX m)≠ .jH:=λm hm=>by rw[key];split;simp;split;simp;exact hm
      have hA:qx σ c c':=λm _=>⟨rfl,λhf=>hG3 m (λe=>by subst e;rw[hF]at hf;cases hf)⟩
      have hCh:∀m,m=n\/m=n2->∃ob,σ (cX m)= .o ob:=by rintro m (rfl|rfl);exact⟨_,hg⟩;exact⟨_,X1⟩
      have iu:∀m x,(m=n\/m=n2)->wr σ1 (dw o .un) (cX m)= .o x->(m=n2/\x= .dead)\/(m=n/\x= .row el ak (eA xs i j cs)):=by
       intro m x hm hx;rw[key]at hx;by_cases Uz:m=n2
       ·rw[bC Uz]at hx;cases hx;exact .inl ⟨Uz,rfl⟩
       ·rw[bM Uz,bC (hm.resolve_right Uz)]at hx;cases hx;exact .inr ⟨hm.resolve_right Uz,rfl⟩
      have hh:=b8.vD (σ':=wr σ1 (dw o .un)) (w':=w') (c':=c') (λm=>m=n\/m=n2) (λm hm=>by rw[key,bM (λe=>hm (.inr e)),bM (λe=>hm (.inl e))]) aff hA (λm hm _=>hG3 m (λe=>hm (.inl e)))
       (λb _ UU=>qP b (λe=>UU ⟨n,_, .inl rfl,hg,by rw[e];exact JR⟩)) (by simp[w',kV]) (λ_ h=>h) (λ_ h=> .inl h) (λb hb=>jd (b8.lt b hb) (by simp[w',kV]))
       (λm x hm hx=>by
        rcases iu m x hm hx with ⟨rfl,rfl⟩|⟨rfl,rfl⟩
        ·trivial
        ·refine⟨⟨te,q1,fX,rM⟩,zn,λ_=>⟨λi1 j1 hh hn _ he=> ?_,λi1 j1 i2 j2 h1 h2 n1 n2' he=> ?_⟩⟩
         ·rcases Vb i1 j1 hh hn with ⟨_,_,g1,g2⟩|⟨_,g1,g2,g3⟩
          ·exact afR g1 (g2.symm.trans he)
          ·exact(gQ rfl).out i1 j1 (same i1 j1 hh) g1 jg (g2.symm.trans he)
         ·rcases Vb i1 j1 h1 n1 with ⟨a1,a2,a3,a4⟩|⟨a1,a2,a3,a4⟩<;>rcases Vb i2 j2 h2 n2' with ⟨b1,b2,b3,b4⟩|⟨b1,b2,b3,b4⟩
          ·exact⟨a1.trans b1.symm,a2.trans b2.symm⟩
          ·exfalso;exact ic (b8.sep m _ n2 _ _ hg X1 b4 (by rw[<-b3,<-he,a4];exact Wy a3))
          ·exfalso;exact ic (b8.sep m _ n2 _ _ hg X1 a4 (by rw[<-a3,he,b4];exact Wy b3))
          ·exact(gQ rfl).one i1 j1 i2 j2 (same i1 j1 h1) (same i2 j2 h2) a2 b2 (a3.symm.trans (he.trans b3)))
       (λm x b hm hx hf=>by
        rcases iu m x hm hx with ⟨rfl,rfl⟩|⟨rfl,rfl⟩
        ·exact hf.elim
        ·have ae5:jJ (λk=>k=m\/k=n2) σ c b:=by
          rcases hf with ⟨_,rfl⟩|⟨_,i1,j1,hh,hn,rfl⟩
          ·exact⟨m,_, .inl rfl,hg,JR⟩
          ·rcases Vb i1 j1 hh hn with ⟨_,_,g1,g2⟩|⟨_,g1,g2,g3⟩
           ·rw[g2];exact⟨n2,_, .inr rfl,X1,Wy g1⟩
           ·rw[g2];exact⟨m,_, .inl rfl,hg,g3⟩
         exact⟨.inl ae5,b8.HB ae5.own⟩)
       (λm x m' x' b hm vN hx oW hf wC=>by
        rcases iu m x hm hx with ⟨rfl,rfl⟩|⟨rfl,rfl⟩
        ·exact hf.elim
        ·rcases iu m' x' vN oW with ⟨rfl,rfl⟩|⟨rfl,rfl⟩
         ·exact wC.elim
         ·rfl)
       (λm bs hm hx=>by rcases iu m _ hm hx with ⟨_,h⟩|⟨_,h⟩<;>cases h) rfl rfl rfl
      intro K Q hK;refine BP hr (hK undef w' c' hh.1 ?_ hh.2 hA);refine dD.vD b8 hh.2 hA aff o undef (λk hk=>by rw[s1 k hk];show slot (o_ (o_ σ (cX n) (.o (.row el ak (eA xs i j cs)))) (cX n2) (.o .dead)) k=_;rw[i9,i9]) (λd ho=>⟨hd d ho, ?_, ?_⟩)
      ·rw[s2 d ho];trivial
      ·rw[s2 d ho];intro k hk;simp[cD]at hk
     ·simp at h
    ·simp at h
  ·simp at h
 ·simp at h
theorem RI(hE:eg P E)(b8:Ok E σ w c)(dD:e_ E σ a w c)(hd:∀d,o.dst=aj d->d<a.tmps.size){t:aG}{p x:dr}(ho:o.op= .store t p x)(h:(lF E nm o).val σ=aj e):gD P E σ a w c o e.ws:=by
 simp only[lF,ho]at h;obtain⟨ti,h1,h⟩:=Rd.bind_some h;obtain⟨pv,h2,h⟩:=Rd.bind_some h;obtain⟨xv,h3,h⟩:=Rd.bind_some h;have h1:=dS h1;obtain⟨ep,kp⟩:=iJ dD h2;obtain⟨ex,kx⟩:=lM dD h3;cases xv with
 |v g ys=>
  obtain⟨h4,h⟩:=cE h;have h4:=aX h4;obtain⟨ws,h5,h⟩:=Rd.bind_some h;obtain rfl:=aF h;have ng:=pM.cells ex;have FW:(a.eval x).cells.size=ti.ks.length:=by rw[ng.1,h4]
  have ky:∀b∈ys,iU σ b:=λb hb n hn=>kx n (bG.2 ⟨b,hb,hn⟩);obtain⟨_,_,_,_,kH,_⟩:=hE.info t ti h1;have exec:∀{b of:aG} {cur:di bg},a.eval p= .pointer (aj (ad b of))->nq w b cur->of+(a.eval x).cells.size<=cur.size->(execOp a.eval o).run P w= .ok .skip (w.setRow b (dY cur of (a.eval x).cells.toList)):=by intro b of cur hp hb hf;unfold execOp;rw[ho];refine W4 ?_;rw[hp];exact HR w hE h1 FW hb hf ng.one
  have hkK:∀(b:aG) (new:di bg),vj σ c b->∀b',c.K b'->(w.setRow b new).heap[b']? =w.heap[b']? :=by intro b new hb b' hk;exact setRow_other w b b' new (λe=>by subst e;exact b8.HB hb hk)
  have h5:(Fx E pv ys).val σ=aj ws\/∃n i j,pv= .rp n i j/\xT n=ak/\(Fw E n i j ys).val σ=aj ws:=by
   cases pv with
   |rp n i j=>
    unfold S0 at h5;simp only at h5;cases hF:xT n with
    |true=>rw[hF,ay]at h5;exact .inr ⟨n,i,j,rfl,hF,h5⟩
    |false=>rw[hF,aD]at h5;exact .inl h5
   |_=>exact .inl h5
  rcases h5 with h5|⟨n,i,j,rfl,hF,h5⟩
  rotate_left
  ·obtain⟨hpi,hpv⟩:=ep;exact MU b8 dD hd hF hpi h5 ng (by rw[<-h4]at kH;exact kH) (λcur hb hf=>exec hpv hb hf)
  cases pv with
  |bp n j=>
   obtain⟨ob,hg,h5⟩:=Rd.bind_some h5;have hg:=dt hg;cases ob with
   |box xs=>
    obtain⟨h6,h5⟩:=cE h5;have h6:=cC h6;obtain rfl:=aF h5;obtain⟨cur,hb,fX,XZ⟩:=b8.obj n _ hg;have uT:vj σ c (c.P n).blk:=⟨n,_,hg,rfl⟩
    have nD:j+(a.eval x).cells.size<=cur.size:=by rw[ng.1,fX];exact h6
    have ae0:j+(a.eval x).cells.toList.length<=cur.size:=by rw[dN];exact nD
    have Cv:=hkK (c.P n).blk (dY cur j (a.eval x).cells.toList) uT;refine sj b8 dD hd hg (ob':= .box (iG xs j ys)) ?_ (λb hb=>hb) (λzs hz b hb=> ?_) (s:= .un) trivial (λn hn=>by simp[cD]at hn) (λb hb N6=>setRow_other w _ b _ (λe=>N6 e)) (by simp[kV]) rfl rfl rfl (.inr ⟨exec ep hb nD,rfl⟩)
    ·have:=(fQ.put (E:=E) (w:=w) (c:=c) ⟨fX,XZ⟩ ng h6)
     refine⟨_,hb.setRow (eS ae0),this.1,λq b hq=> ?_⟩
     obtain⟨u,hu,hub⟩:=this.2 q b hq;exact⟨u,hu,hub.frame Cv (λ_ h=>h) (λ_ _=>⟨rfl,rfl⟩)⟩
    ·cases hz;rcases Bb hb with hb|hb
     ·exact b8.kn n xs hg b hb
     ·exact ky b hb
   |_=>simp at h5
  |rp n i j=>
   obtain⟨ob,hg,h5⟩:=Rd.bind_some h5;have hg:=dt hg;cases ob with
   |row el zm xs=>
    obtain⟨te,h6,h5⟩:=Rd.bind_some h5;have h6:=dS h6;obtain⟨h7,h5⟩:=cE h5;obtain⟨⟨cs,w2⟩,h8,h5⟩:=Rd.bind_some h5;obtain rfl:=aF h5;obtain⟨m1,m2,_,m3⟩:=AO (E:=E) (w:=w) (c:=c) h7 h8;obtain⟨⟨t2,q1,fX,ma⟩,fW,gQ⟩:=b8.obj n _ hg;obtain rfl:te=t2:=aF (h6.symm.trans q1);obtain⟨hi,hpv⟩:=ep;have hlk:cs.length=((te.ks.drop j).take ys.length).length:=by rw[<-m1];simp
    have jF:j+cs.length<=te.ks.length:=by
     rw[eu,ia]at hlk;have:0<cs.length:=by rw[m2,h4];exact kH
     omega
    have hkd:cs.map CV.kd=(te.ks.drop j).take cs.length:=by rw[m1,m2]
    have lD:i<xs.length:=by rw[<-fW.n];exact hi
    have jg:(c.P n).nil=false:=by
     cases hn:(c.P n).nil with
     |false=>rfl
     |true=>have:=(fW.nil hn).1;subst this;simp at lD
    have uT:vj σ c (c.P n).blk:=⟨n,_,hg, .inl ⟨jg,rfl⟩⟩
    have Cv:=λnew=>hkK (c.P n).blk new uT;have Ha:=kI ma;have rM:=wh ma hkd jF lD;have A1:=kI rM;have same:∀i' j',fZ (eA xs i j cs) i' j'->fZ xs i' j':=λi' j' hx=>(Ha i' j').2 (by have:=(A1 i' j').1 hx;rwa[jz]at this);obtain⟨_,vals,hb⟩:=fW.pos hi;have Hj:∀y∈xs,y.length=(c.P n).sz:=λy hy=>by rw[fX,<-ma y hy];simp
    have amB:=Cv (dY vals ((c.P n).off+i*(c.P n).sz+j) (a.eval x).cells.toList);have hw:∀b,c.K b->(w.setRow (c.P n).blk (dY vals ((c.P n).off+i*(c.P n).sz+j) (a.eval x).cells.toList)).heap[b]? =w.heap[b]? :=amB;generalize Lq:w.setRow (c.P n).blk (dY vals ((c.P n).off+i*(c.P n).sz+j) (a.eval x).cells.toList)=w' at hw;have qP:∀b,b≠(c.P n).blk->w'.heap[b]? =w.heap[b]? :=λb hb=>by rw[<-Lq];exact setRow_other w _ b _ hb
    obtain⟨nD,zn⟩:=iV.put (R':=λi1 j1 u1 x1=>if zm=ak then XC E w' (c.G n) i1 j1 u1 x1 else cZ E w' c.K u1 x1) fW hb Hj (i:=i) (j:=j) (cs:=cs) (vs:=(a.eval x).cells.toList) hi (by rw[fX];exact jF) (by rw[dN,ng.1,m2])
     (λq y hq=>by
      obtain⟨r1,r2,r3⟩:=m3 _ ng q y hq;refine⟨NJ y,by rw[cQ];exact r1, ?_⟩
      split
      ·exact tu r2 ⟨rfl,r3⟩
      ·exact kl r2 ⟨rfl,r3⟩)
     (λi1 y1 j1 x1 u1 h1 h2 hr=>by
      cases zm with
      |true=>rw[bC rfl]at hr⊢;exact hr.frame (λhl hn=>qP _ ((gQ rfl).out i1 j1 ⟨y1,x1,h1,h2,hl⟩ hn jg))
      |false=>rw[bM (by simp)]at hr⊢;exact hr.frame hw (λ_ h=>h))
    rw[Lq]at zn;refine sj b8 dD hd hg (ob':= .row el zm (eA xs i j cs)) ?_ ?_ (λzs hz=>by cases hz) (s:= .un) trivial (λn hn=>by simp[cD]at hn) (w':=w') (λb hb N6=>qP b (λe=>N6 (.inl ⟨jg,e⟩))) (by rw[<-Lq];simp[kV]) (by rw[<-Lq];rfl) (by rw[<-Lq];rfl) (by rw[<-Lq];rfl) (.inr ⟨?_,rfl⟩)
    ·exact⟨⟨te,q1,fX,rM⟩,zn,λhx=>⟨λi1 j1 hh=>(gQ hx).out i1 j1 (same i1 j1 hh),λi1 j1 i2 j2 h1 h2=>(gQ hx).one i1 j1 i2 j2 (same i1 j1 h1) (same i2 j2 h2)⟩⟩
    ·rintro b (hb|⟨hx,i1,j1,hh,hn⟩)
     ·exact .inl hb
     ·exact .inr ⟨hx,i1,j1,same i1 j1 hh,hn⟩
    ·rw[<-Lq];refine exec hpv hb ?_;rw[dN]at nD;exact nD
   |_=>simp at h5
  |ip n i j i2 j2=>
   obtain⟨ob,hg,h5⟩:=Rd.bind_some h5;have hg:=dt hg;cases ob with
   |row el zm xs=>
    cases zm with
    |false=>simp at h5
    |true=>
    obtain⟨te,h6,h5⟩:=Rd.bind_some h5;have h6:=dS h6;split at h5
    ·rename_i e2 zp;obtain⟨t2,h7,h5⟩:=Rd.bind_some h5;have h7:=dS h7;obtain⟨h8,h5⟩:=cE h5;obtain⟨⟨cs,w2⟩,h9,h5⟩:=Rd.bind_some h5;obtain rfl:=aF h5;have afl:plain ((t2.ks.drop j2).take ys.length)=true:=bn.2 (λk hk=>bn.1 h8 k (kD (kE hk)));obtain⟨m1,m2,_,m3⟩:=AO (E:=E) (w:=w) (c:=c) afl h9;obtain⟨⟨hi,EY,hpv⟩,_⟩:=ep;obtain⟨⟨t1,q1,fX,ma⟩,fW,gQ⟩:=b8.obj n _ hg;obtain rfl:te=t1:=aF (h6.symm.trans q1);obtain⟨zs,y,t3,r1,r2,r3,r4,r5,r6,r7,_⟩:=zP b8 hg h6 zp hi;obtain rfl:t2=t3:=aF (h7.symm.trans r3);rw[fc r1 r2];simp only[jx];have hlk:cs.length=((t2.ks.drop j2).take ys.length).length:=by rw[<-m1];simp
     have jF:j2+cs.length<=t2.ks.length:=by
      rw[eu,ia]at hlk;have:0<cs.length:=by rw[m2,h4];exact kH
      omega
     have hkd:cs.map CV.kd=(t2.ks.drop j2).take cs.length:=by rw[m1,m2]
     have amG:i2<zs.length:=by rw[<-r7.n];exact EY
     have lD:i<xs.length:=(aU.1 r1).1;obtain⟨A4,vals,hb⟩:=r7.pos EY;obtain⟨jg,pv,hpb⟩:=fW.pos hi;have Cw:fZ xs i j:=⟨y,_,r1,r2,rfl⟩
     have uT:vj σ c (c.G n i j).blk:=⟨n,_,hg, .inr ⟨rfl,i,j,Cw,A4,rfl⟩⟩
     have hw:=hkK (c.G n i j).blk (dY vals ((c.G n i j).off+i2*(c.G n i j).sz+j2) (a.eval x).cells.toList) uT;have Jx:∀y∈zs,y.length=(c.G n i j).sz:=λy hy=>by rw[r5,<-r6 y hy];simp
     obtain⟨nD,zn⟩:=iV.put (R':=λ_ _ u1 x1=>Sc u1 x1) r7 hb Jx (i:=i2) (j:=j2) (cs:=cs) (vs:=(a.eval x).cells.toList) EY (by rw[r5];exact jF) (by rw[dN,ng.1,m2])
      (λq y hq=>⟨NJ y,by rw[cQ];exact(m3 _ ng q y hq).1,rfl,(m3 _ ng q y hq).2.2⟩) (λ_ _ _ _ _ _ _ hr=>hr)
     generalize Lq:w.setRow (c.G n i j).blk (dY vals ((c.G n i j).off+i2*(c.G n i j).sz+j2) (a.eval x).cells.toList)=w' at hw zn;have qP:∀b,b≠(c.G n i j).blk->w'.heap[b]? =w.heap[b]? :=λb hb=>by rw[<-Lq];exact setRow_other w _ b _ hb
     have hjk:j<te.ks.length:=(aU.1 zp).1;have abu:[CV.l e2 (eA zs i2 j2 cs)].map CV.kd=(te.ks.drop j).take [CV.l e2 (eA zs i2 j2 cs)].length:=by rw[bw,List.take_one,List.head?_drop,zp];rfl
     have rM:=wh (i:=i) (j:=j) (cs:=[CV.l e2 (eA zs i2 j2 cs)]) ma abu (by simp;omega) lD;have Ha:=kI ma;have A1:=kI rM;have same:∀i' j',fZ (eA xs i j [CV.l e2 (eA zs i2 j2 cs)]) i' j'->fZ xs i' j':=λi' j' hx=>(Ha i' j').2 (by have:=(A1 i' j').1 hx;rwa[jz]at this);have abC:(c.P n).blk≠(c.G n i j).blk:=λe=>(gQ rfl).out i j Cw A4 jg e.symm;have n8:iV w' (c.P n) (eA xs i j [CV.l e2 (eA zs i2 j2 cs)]) (λi1 j1 u1 x1=>if ak=ak then XC E w' (c.G n) i1 j1 u1 x1 else cZ E w' c.K u1 x1):=by
      obtain⟨vs,k1,k2,k3,k4,k5⟩:=fW.mem jg;refine⟨by rw[jz];exact fW.n,λhn=>(by rw[jg]at hn;cases hn),λ_=>⟨vs,k1.frame (qP _ abC),k2,k3,k4,λi1 y1 j1 x1 g1 g2=> ?_⟩⟩
      rw[we r1]at g1;simp only[if_true]at k5⊢;by_cases G_:i1=i
      ·subst G_;rw[bC rfl]at g1;cases g1;have Hj:y.length=te.ks.length:=by rw[<-ma y (aQ r1)];simp
       rw[oQ (by simp;omega)]at g2;by_cases hq:j<=j1/\j1<j+[CV.l e2 (eA zs i2 j2 cs)].length
       ·rw[bC hq]at g2;have:j1=j:=by simp at hq;omega
        subst this;simp at g2;subst g2;obtain⟨u,hu,hr⟩:=k5 _ _ _ _ r1 r2;refine⟨u,hu,hr.1,t2,r3,r4,r5,wh r6 hkd jF amG,zn⟩
       ·rw[bM hq]at g2;obtain⟨u,hu,hr⟩:=k5 _ _ _ _ r1 g2;refine⟨u,hu,hr.frame (λhl hn=>qP _ (λe=> ?_))⟩
        have:=((gQ rfl).one _ _ _ _ ⟨y,x1,r1,g2,hl⟩ Cw hn A4 e).2;simp at hq;omega
      ·rw[bM G_]at g1;obtain⟨u,hu,hr⟩:=k5 _ _ _ _ g1 g2;exact⟨u,hu,hr.frame (λhl hn=>qP _ (λe=>G_ ((gQ rfl).one _ _ _ _ ⟨y1,x1,g1,g2,hl⟩ Cw hn A4 e).1))⟩
     refine sj b8 dD hd hg (ob':= .row el ak (eA xs i j [CV.l e2 (eA zs i2 j2 cs)])) ?_ ?_ (λzs hz=>by cases hz) (s:= .un) trivial (λn hn=>by simp[cD]at hn) (w':=w') (λb hb N6=>qP b (λe=>N6 (.inr ⟨rfl,i,j,Cw,A4,e⟩))) (by rw[<-Lq];simp[kV]) (by rw[<-Lq];rfl) (by rw[<-Lq];rfl) (by rw[<-Lq];rfl) (.inr ⟨?_,rfl⟩)
     ·exact⟨⟨te,q1,fX,rM⟩,n8,λhx=>⟨λi1 j1 hh=>(gQ hx).out i1 j1 (same i1 j1 hh),λi1 j1 i2 j2 h1 h2=>(gQ hx).one i1 j1 i2 j2 (same i1 j1 h1) (same i2 j2 h2)⟩⟩
     ·rintro b (hb|⟨hx,i1,j1,hh,hn⟩)
      ·exact .inl hb
      ·exact .inr ⟨hx,i1,j1,same i1 j1 hh,hn⟩
     ·rw[<-Lq];refine exec hpv hb ?_;rw[dN]at nD;exact nD
    ·simp at h5
   |_=>simp at h5
  |_=>simp[Fx]at h5
 |je=>simp at h
 |un=>simp at h
end
end Go.FG

namespace Go.FG
theorem Nw{ks:aA Ck}(h:plain ks=ak):JI ks=true:=by refine bn.2 (λk hk=> ?_);have:=bn.1 h k hk;cases k<;>first|rfl|exact this
theorem sG{xs:aW}{ks:aA Ck}(h:∀y∈xs,y.map CV.kd=ks)(hp:plain ks=ak){i j:aG}:¬fZ xs i j:=by intro hx;obtain⟨_,e,hk⟩:=(kI h i j).1 hx;have:=bn.1 hp _ (aQ hk);cases this
theorem GM{xs z:aW}{lo hi:aG}(h1:lo<=hi)(h2:hi<=xs.length)(hz:z.length=hi-lo)(i:aG):(xs.take lo++z++xs.drop hi)[i]? =if lo<=i/\i<hi then z[i-lo]? else xs[i]? :=by
 by_cases a:i<lo
 ·rw[bM (by omega),cj,dj (by simp;omega),dV,bC a]
 ·by_cases b:i<hi
  ·rw[bC ⟨by omega,b⟩,cj,c6 (by simp;omega),dj (by simp;omega)];congr 1;simp;omega
  ·rw[bM (by omega),cj,c6 (by simp;omega),c6 (by simp;omega),dM];congr 1;simp;omega
section
variable {P:cR} {E:fF} {σ:St} {a:Act} {w:bF} {c:eO} {o:e8} {nm:aG} {e:rT}
theorem NG{t ty el:aG}{z:bg}{inf:Iv}(hu:P.underlying t=aj (.slice el))(hi:P.info? el=aj inf)(hz:inf.zero=aj z){b of n cp:aG}{cur:di bg}(hn:0<n)(hb:nq w b cur)(hf:of+n*z.cells.size<=cur.size)(h1:∀u∈z.cells.toList,u.oneCell'=ak):
  (oc #[t] ty #[.slice (aj (ad b of)) n cp]).run P w= .ok (.tuple #[]) (w.setRow b (dY cur of (madeCells z.cells (n*z.cells.size)).toList)):=by
 have Ju:=mX (P:=P) w (o:=of) (vs:=(madeCells z.cells (n*z.cells.size)).toList) hb (by simpa [size_madeCells]using hf) (λv hv=>by
  unfold madeCells at hv;simp only[yZ,cJ]at hv;obtain⟨q,hq,rfl⟩:=hv;have hq:q<n*z.cells.size:=by simpa using hq
  have hp:0<z.cells.size:=by rcases BU z.cells.size with h|h;(rw[h]at hq;simp at hq);exact h
  have:q%z.cells.size<z.cells.size:=BV _ hp;rw[getElem!_pos z.cells _ this];exact h1 _ (by simp))
 have hz':(fw z.cells n)=madeCells z.cells (n*z.cells.size):=rfl;cases n with
 |zero=>omega
 |succ n=>simp[oc,run_underlying hu,zeroValue,typeInfo,hi,hz,hz',Ju]
theorem BC{t ty el:aG}(hu:P.underlying t=aj (.slice el)){A:aC Addr}{cp:aG}:(oc #[t] ty #[.slice A 0 cp]).run P w= .ok (.tuple #[]) w:=by cases A<;>simp[oc,run_underlying hu]
theorem RE(hE:eg P E)(b8:Ok E σ w c)(dD:e_ E σ a w c)(hd:∀d,o.dst=aj d->d<a.tmps.size){cl:Call}(ho:o.op= .call cl)(hb:cl.callee= .builtin .clear)(h:(lF E nm o).val σ=aj e):gD P E σ a w c o e.ws:=by
 simp only[lF,ho,hb]at h;split at h
 ·rename_i x hx;split at h
  ·rename_i t ht;obtain⟨k,hk,h⟩:=Rd.bind_some h;cases k with
   |l el=>
    obtain⟨v,h1,h⟩:=Rd.bind_some h;obtain⟨ws,h2,h⟩:=Rd.bind_some h;obtain rfl:=aF h;obtain⟨ev,kv⟩:=iJ dD h1;have hu:=kg hE hk;have hx:=mS hx;have ht:=mS ht;have exec:∀{w'},(oc #[t] o.type #[a.eval x]).run P w= .ok (.tuple #[]) w'->(execOp a.eval o).run P w= .ok (.value (.tuple #[])) w':=by intro w' hr;obtain⟨cs,FW⟩:=mj (P:=P) (a:=a) (w:=w) ho hb;rw[FW,hx,ht];simp only[builtin,Ca,e9,Ao];exact iF hr
    have sv:iW E w c (.je []) (.tuple #[]):=⟨#[],rfl,rfl,λj agg xs hj=>by simp at hj⟩
    have ao:∀A cp,a.eval x= .slice A 0 cp->(execOp a.eval o).run P w= .ok (.value (.tuple #[])) w:=λA cp hv=>exec (by rw[hv];exact BC hu);have main:∀(n:aG) (ex:aY) (xs:aW) (lo hi:aG) (te:TI),σ (cX n)= .o (.row el ex xs)->E.ty el=aj te->plain te.ks=ak->vA (c.P n) lo hi (a.eval x)->gD P E σ a w c o ([(cX n, .o (.row el ex (xs.take lo++aT te.ks (hi-lo)++xs.drop hi)))]++dw o (.je [])):=by
     intro n ex xs lo hi te hg Jw ry hv;obtain⟨⟨t2,q1,fX,ma⟩,fW,gQ⟩:=b8.obj n _ hg;obtain rfl:te=t2:=aF (Jw.symm.trans q1);obtain⟨v1,v2,v3,v4⟩:=hv;have hle:hi<=xs.length:=by rw[<-fW.n];exact v2
     have uS:=Nw ry;have Jx:(aT te.ks (hi-lo)).length=hi-lo:=by simp[aT]
     by_cases hz:hi-lo=0
     ·have afo:xs.take lo++aT te.ks (hi-lo)++xs.drop hi=xs:=by
       have:hi=lo:=by omega
       subst this;simp[aT]
      rw[afo];have hr:(execOp a.eval o).run P w= .ok (.value (.tuple #[])) w:=by
       cases hq:(c.P n).nil with
       |true=>exact ao _ _ (v3 hq)
       |false=>
        rcases v4 hq with ⟨_,h⟩|⟨_,oo,_,h⟩
        ·rw[hz]at h;exact ao _ _ h
        ·exact ao _ _ h
      exact sj b8 dD hd hg (b8.obj n _ hg) (λb hb=>hb) (λzs hz=>by cases hz) sv (λn hn=>by simp[cD]at hn) (λb _ _=>rfl) (cu _) rfl rfl rfl (.inl hr)
     ·have jg:(c.P n).nil=false:=by
       cases hq:(c.P n).nil with
       |false=>rfl
       |true=>have:=(fW.nil hq).1;subst this;simp at hle;omega
      obtain⟨vals,k1,k2,k3,k4,k5⟩:=fW.mem jg;rcases v4 jg with ⟨u1,hv⟩|⟨u1,oo,_,hv⟩
      ·obtain⟨inf,lK,at6,_,_,Ih⟩:=hE.info el te Jw;obtain⟨z,CB,hz3,_⟩:=Ih uS;have N_:z.cells.size=te.ks.length:=by rw[hz3];simp
       have hbd:(c.P n).off+lo*(c.P n).sz+(hi-lo)*z.cells.size<=vals.size:=by rw[N_,<-fX,lB,<-dc];have:(lo+(hi-lo))*(c.P n).sz<=(c.P n).cap*(c.P n).sz:=b7 _ (by omega);omega
       have hr:=NG (P:=P) (w:=w) (ty:=o.type) (of:=(c.P n).off+lo*(c.P n).sz) (n:=hi-lo) (cp:=(c.P n).cap-lo) hu lK CB (by omega) k1 hbd (by rw[hz3];intro u rA;obtain⟨k,ud,rfl⟩:=cJ.1 (by simpa using rA:u∈te.ks.map im);cases k<;>rfl);rw[<-hv]at hr;have uT:vj σ c (c.P n).blk:=⟨n,_,hg, .inl ⟨jg,rfl⟩⟩
       rw[N_,hz3]at hr;have hml:(madeCells (te.ks.map im).toArray ((hi-lo)*te.ks.length)).toList.length=(hi-lo)*te.ks.length:=by simp[size_madeCells]
       have abk:(c.P n).off+lo*(c.P n).sz+(madeCells (te.ks.map im).toArray ((hi-lo)*te.ks.length)).toList.length<=vals.size:=by rw[hml,<-N_];exact hbd
       have Dn:=k1.setRow (eS abk);have ae1:=gd abk;generalize xR:dY vals ((c.P n).off+lo*(c.P n).sz) (madeCells (te.ks.map im).toArray ((hi-lo)*te.ks.length)).toList=new at hr Dn ae1;have amU:new.size=vals.size:=by rw[<-xR];exact eS abk
       have qP:∀b,b≠(c.P n).blk->(w.setRow (c.P n).blk new).heap[b]? =w.heap[b]? :=λb hb=>setRow_other w _ b _ hb;have hw:∀b,c.K b->(w.setRow (c.P n).blk new).heap[b]? =w.heap[b]? :=λb hk=>qP b (λe=>by subst e;exact b8.HB uT hk);have rM:∀y∈xs.take lo++aT te.ks (hi-lo)++xs.drop hi,y.map CV.kd=te.ks:=by
        intro y hy;rw[a_,a_]at hy;rcases hy with (hy|hy)|hy
        ·exact ma y (kE hy)
        ·exact wy uS _ y hy
        ·exact ma y (kD hy)
       refine sj b8 dD hd hg (ob':= .row el ex (xs.take lo++aT te.ks (hi-lo)++xs.drop hi)) ?_ ?_ (λzs hz=>by cases hz) (w':=w.setRow (c.P n).blk new) ⟨#[],rfl,rfl,λj agg xs hj=>by simp at hj⟩ (λn hn=>by simp[cD]at hn) (λb _ N6=>qP b (λe=>N6 (.inl ⟨jg,e⟩))) (by simp[kV]) rfl rfl rfl (.inl (exec hr))
       ·refine⟨⟨te,Jw,fX,rM⟩,⟨?_,λhn=>(by rw[jg]at hn;cases hn),λ_=>⟨new,Dn,k2,k3,by rw[amU];exact k4,λi y j x lD hj=> ?_⟩⟩,λ_=>⟨λi j hh=>cq hh (sG rM ry),λi j i' j' hh=>cq hh (sG rM ry)⟩⟩
        ·rw[fW.n];simp[aT];omega
        ·have hl:=gX ry (rM y (aQ lD)) hj;have jF:j<te.ks.length:=by rw[<-rM y (aQ lD),bQ];exact(aU.1 hj).1
         have toR:∀u,Sc u x->(if ex=ak then XC E (w.setRow (c.P n).blk new) (c.G n) i j u x else cZ E (w.setRow (c.P n).blk new) c.K u x):=by
          intro u hu;split
          ·exact tu hl hu
          ·exact kl hl hu
         rw[GM v1 hle Jx]at lD;rw[ae1,hml];by_cases hq:lo<=i/\i<hi
         ·rw[bC hq]at lD;obtain⟨ae4,k,hk1,rfl⟩:=tB lD hj;have h2:(i-lo+1)*te.ks.length<=(hi-lo)*te.ks.length:=b7 _ ae4;have h3:i*te.ks.length=lo*te.ks.length+(i-lo)*te.ks.length:=by rw[<-dc];congr 1;omega
          rw[dc]at h2;rw[fX,bC (by omega)];refine⟨im k, ?_,toR _ ?_⟩
          ·have:=lj (n:=hi-lo) ae4 hk1;rw[cQ,<-this];congr 1;omega
          ·have UX:=bn.1 ry k (aQ hk1);cases k<;>first|exact⟨rfl,trivial⟩|exact⟨rfl,bL _⟩|cases UX
         ·rw[bM hq]at lD;obtain⟨u,rA,Cx⟩:=k5 i y j x lD hj;refine⟨u, ?_,toR u ?_⟩
          ·rw[bM ?_];exact rA;rw[fX];by_cases A3:i<lo
           ·have:(i+1)*te.ks.length<=lo*te.ks.length:=b7 _ A3;rw[dc]at this;omega
           ·have:hi*te.ks.length<=i*te.ks.length:=b7 _ (by omega);have h3:hi*te.ks.length=lo*te.ks.length+(hi-lo)*te.ks.length:=by rw[<-dc];congr 1;omega
            omega
          ·split at Cx
           ·exact tw Cx hl
           ·exact oM Cx hl
       ·rintro b (hb|⟨_,i,j,hh,_⟩)
        ·exact .inl hb
        ·exact cq hh (sG rM ry)
      ·omega
    unfold P_ at h2;cases v with
    |nl=>obtain rfl:=aF h2;exact gn b8 dD hd sv (λn hn=>by simp[cD]at hn) (ao _ _ ev)
    |own n=>
     obtain⟨ob,hg,h2⟩:=Rd.bind_some h2;have hg:=dt hg;cases ob with
     |row e' ex xs=>obtain⟨te,q1,h2⟩:=Rd.bind_some h2;obtain⟨q2,h2⟩:=cE h2;obtain rfl:=aF h2;simp only[aK]at q2;have:=aX q2.1;subst this;have ev:a.eval x=lh (c.P n):=ev;have:=main n ex xs 0 xs.length te hg (dS q1) q2.2 (by rw[ev];exact u6 b8 hg);simpa using this
     |_=>simp at h2
    |vw n lo hi=>
     obtain⟨ob,hg,h2⟩:=Rd.bind_some h2;have hg:=dt hg;cases ob with
     |row e' ex xs=>obtain⟨te,q1,h2⟩:=Rd.bind_some h2;obtain⟨q2,h2⟩:=cE h2;obtain rfl:=aF h2;simp only[aK]at q2;have:=aX q2.1;subst this;exact main n ex xs lo hi te hg (dS q1) q2.2 ev
     |_=>simp at h2
    |_=>simp at h2
   |_=>simp at h
  ·simp at h
 ·simp at h
end
end Go.FG

namespace Go.FG
def jQ(D:aA (aG×Obj)):aA (aG×eE):=D.map λd=>(cX d.1, .o d.2)
def tC(D:aA (aG×Obj))(m:aG):Prop:=∃x,(m,x)∈D
theorem W3:∀(D:aA (aG×Obj)) (σ:St),(∀m,(wr σ (jQ D) (cX m)=σ (cX m)/\¬tC D m)\/∃x,(m,x)∈D/\wr σ (jQ D) (cX m)= .o x)/\∀m,slot (wr σ (jQ D)) m=slot σ m:=by
 intro D;induction D with
 |nil=>intro σ;exact⟨λm=> .inl ⟨rfl,λ⟨x,hx⟩=>by cases hx⟩,λm=>rfl⟩
 |cons d D ih=>
  intro σ;obtain⟨n,x⟩:=d;obtain⟨h1,h2⟩:=ih (o_ σ (cX n) (.o x));refine⟨λm=> ?_,λm=> ?_⟩
  ·show(wr (o_ σ (cX n) (.o x)) (jQ D) (cX m)=_/\_)\/∃y,_/\wr (o_ σ (cX n) (.o x)) (jQ D) (cX m)=_;rcases h1 m with ⟨q1,q2⟩|⟨y,q1,q2⟩
   ·rw[pB]at q1;by_cases hm:m=n
    ·subst hm;exact .inr ⟨x,by simp,by rw[q1,bC rfl]⟩
    ·refine .inl ⟨by rw[q1,bM hm],λ⟨y,hy⟩=> ?_⟩;rcases cz.1 hy with hy|hy
     ·cases hy;exact hm rfl
     ·exact q2 ⟨y,hy⟩
   ·exact .inr ⟨y,cW _ q1,q2⟩
  ·show slot (wr (o_ σ (cX n) (.o x)) (jQ D)) m=_;rw[h2,i9]
section
variable {P:cR} {E:fF} {σ:St} {a:Act} {w:bF} {c:eO} {o:e8} {nm:aG} {e:rT}
theorem GK(b8:Ok E σ w c)(dD:e_ E σ a w c){o:e8}(hd:∀d,o.dst=aj d->d<a.tmps.size){D:aA (aG×Obj)}{s:SV}{v:bg}{w':bF}{c':eO}
  (hA:jj σ c c')
  (mn:∀n x,(n,x)∈D->pf E w' c' n x)
  (pq:∀n x b,(n,x)∈D->fu c' n x b->(jJ (tC D) σ c b\/w.heap.size<=b)/\¬c'.K b)
  (QH:∀n x n' x' b,(n,x)∈D->(n',x')∈D->fu c' n x b->fu c' n' x' b->n=n')
  (Hc:∀n xs,(n,Obj.box xs)∈D->∀a∈xs,∀m∈bJ a,σ (cX m)≠ .jH\/tC D m)
  (hK:∀b,c.K b->c'.K b) (TL:∀b,c'.K b->c.K b\/jJ (tC D) σ c b\/w.heap.size<=b) (EW:∀b,c'.K b->b<w'.heap.size)
  (hW:∀b,b<w.heap.size->¬jJ (tC D) σ c b->w'.heap[b]? =w.heap[b]?) (fX:w.heap.size<=w'.heap.size) (M7:w'.os=w.os) (U1:w'.tape=w.tape) (UW:w'.output=w.output)
  (wF:iW E w' c' s v) (zq:∀n∈cD s,σ (cX n)≠ .jH\/tC D n):
  Ok E (wr σ (jQ D++dw o s)) w' c'/\e_ E (wr σ (jQ D++dw o s)) (a.put o.dst v) w' c'/\nQ σ c w (wr σ (jQ D++dw o s)) c' w':=by
 rw[NP];obtain⟨d1,d2⟩:=W3 D σ;let σ1:=wr σ (jQ D);obtain⟨s1,s2,s3⟩:=qZ σ1 o s;have key:∀m,(wr σ1 (dw o s) (cX m)=σ (cX m)/\¬tC D m)\/∃x,(m,x)∈D/\wr σ1 (dw o s) (cX m)= .o x:=λm=>by rw[s3];exact d1 m
 have ic:∀m,(σ (cX m)≠ .jH\/tC D m)->wr σ1 (dw o s) (cX m)≠ .jH:=by
  intro m hm;rcases key m with ⟨h1,h2⟩|⟨x,_,h2⟩
  ·rw[h1];exact hm.resolve_right h2
  ·rw[h2];simp
 have get:∀m x,tC D m->wr σ1 (dw o s) (cX m)= .o x->(m,x)∈D:=by
  intro m x hm hx;rcases key m with ⟨_,h2⟩|⟨y,h1,h2⟩
  ·exact cq hm h2
  ·rw[h2]at hx;cases hx;exact h1
 have hh:=b8.change (σ':=wr σ1 (dw o s)) (w':=w') (c':=c') (tC D) (λm hm=>(key m).elim (λh=>h.1) (λ⟨x,h1,_⟩=>cq ⟨x,h1⟩ hm)) (λm hm=>ic m (.inl hm)) hA hW fX hK TL EW
  (λm x hm ho=>mn m x (get m x hm ho)) (λm x b hm ho hf=>pq m x b (get m x hm ho) hf) (λm x m' x' b hm vN ho ue hf wC=>QH m x m' x' b (get m x hm ho) (get m' x' vN ue) hf wC)
  (λm xs hm ho y hy n j_=>ic n (Hc m xs (get m _ hm ho) y hy n j_)) M7 U1 UW
 refine⟨hh.1, ?_,hh.2⟩
 refine dD.change b8 hh.2 hA (λm hm=>ic m (.inl hm)) o v (λn j_=>by rw[s1 n j_];exact d2 n) (λd ho=>⟨hd d ho, ?_, ?_⟩)
 ·rw[s2 d ho];exact wF
 ·rw[s2 d ho];intro n j_;exact ic n (zq n j_)
theorem Jl(b8:Ok E σ w c)(dD:e_ E σ a w c){o:e8}(hd:∀d,o.dst=aj d->d<a.tmps.size){D:aA (aG×Obj)}{s:SV}{v:bg}{w':bF}{c':eO}
  (hA:jj σ c c')
  (mn:∀n x,(n,x)∈D->pf E w' c' n x)
  (pq:∀n x b,(n,x)∈D->fu c' n x b->(jJ (tC D) σ c b\/w.heap.size<=b)/\¬c'.K b)
  (QH:∀n x n' x' b,(n,x)∈D->(n',x')∈D->fu c' n x b->fu c' n' x' b->n=n')
  (Hc:∀n xs,(n,Obj.box xs)∈D->∀a∈xs,∀m∈bJ a,σ (cX m)≠ .jH\/tC D m)
  (hK:∀b,c.K b->c'.K b) (TL:∀b,c'.K b->c.K b\/jJ (tC D) σ c b\/w.heap.size<=b) (EW:∀b,c'.K b->b<w'.heap.size)
  (hW:∀b,b<w.heap.size->¬jJ (tC D) σ c b->w'.heap[b]? =w.heap[b]?) (fX:w.heap.size<=w'.heap.size) (M7:w'.os=w.os) (U1:w'.tape=w.tape) (UW:w'.output=w.output)
  (wF:iW E w' c' s v) (zq:∀n∈cD s,σ (cX n)≠ .jH\/tC D n)
  (hr:(execOp a.eval o).run P w= .ok (.value v) w'):gD P E σ a w c o (jQ D++dw o s):=by intro K Q hQ;obtain⟨h1,h2,h3⟩:=GK b8 dD hd hA mn pq QH Hc hK TL EW hW fX M7 U1 UW wF zq;exact wv hr (hQ v w' c' h1 h2 h3 hA.w)
def z_(σ:St)(c:eO)(m:aC aG)(u:bg):CV->Prop
 | .l e ys=>(m=ao/\ys=[]/\u= .slice ao 0 0)\/∃nm,m=aj nm/\u=lh (c.P nm)/\σ (cX nm)= .o (.row e ak ys)
 |x=>Sc u x
def Db(L:aA aG):aA (aG×Obj):=L.map λn=>(n, .dead)
theorem AL(L:aA aG):nN L=jQ (Db L):=by unfold nN jQ Db;rw[jW];rfl
theorem UB{k:Ck}{x:AV}{cv:CV}{ws:aA (aG×eE)}(h:(GR ak k x).val σ=aj (cv,ws)):
  cv.kd=k/\∃m:aC aG,ws=nN m.toList/\(∀nm,m=aj nm->∃ob,σ (cX nm)= .o ob)/\∀u,ej E w c x u->z_ σ c m u cv:=by
 have pl:plain [k]=ak->cv.kd=k/\∃m:aC aG,ws=nN m.toList/\(∀nm,m=aj nm->∃ob,σ (cX nm)= .o ob)/\∀u,ej E w c x u->z_ σ c m u cv:=by
  intro hp;have YN:cv.kd=k/\ws=[]:=by
   cases k<;>cases x<;>simp[GR,plain]at h hp<;>first
    |(obtain⟨rfl,rfl⟩:=h;exact⟨rfl,rfl⟩)
    |(split at h<;>simp at h;rename_i hk;subst hk;obtain⟨rfl,rfl⟩:=h;exact⟨rfl,rfl⟩)
  refine⟨YN.1,ao,YN.2,λnm h=>(by cases h),λu hu=> ?_⟩
  obtain⟨_,h2,h3,_⟩:=xN hp h hu;cases cv<;>first|exact h2|simp[s8]at h3
 cases k with
 |i=>exact pl rfl
 |b=>exact pl rfl
 |s=>exact pl rfl
 |o=>cases x<;>simp[GR]at h
 |l e=>
  cases x with
  |nl=>obtain⟨rfl,rfl⟩:=bU (aF h);exact⟨rfl,ao,rfl,λnm h=>(by cases h),λu hu=> .inl ⟨rfl,rfl,hu⟩⟩
  |sh e' xs=>simp[GR]at h
  |own n=>
   obtain⟨ob,hg,h⟩:=Rd.bind_some h;have hg:=dt hg;cases ob with
   |row e' s6 xs=>obtain⟨h1,h⟩:=cE h;obtain⟨rfl,rfl⟩:=bU (aF h);simp only[aK]at h1;have:=aX h1.1;subst this;obtain rfl:=h1.2;exact⟨rfl,aj n,rfl,λnm h=>(by cases h;exact⟨_,hg⟩),λu hu=> .inr ⟨n,rfl,hu,hg⟩⟩
   |fI=>simp at h
   |_=>simp at h
  |_=>simp[GR]at h
theorem Qd:∀{ks:aA Ck} {xs:aA AV} {cs:aA CV} {ws:aA (aG×eE)} (h:(xO ak ks xs).val σ=aj (cs,ws)),cs.map CV.kd=ks/\xs.length=ks.length/\∃(L:aA aG) (M:aG->aC aG),ws=nN L/\
  (∀nm∈L,∃ob,σ (cX nm)= .o ob)/\(∀j nm,M j=aj nm->nm∈L)/\(L.Nodup->∀i j nm,M i=aj nm->M j=aj nm->i=j)/\
  ∀(vals:di bg),fQ E w c vals xs->∀(q:aG) (x:CV),cs[q]? =aj x->∃u:bg,vals[q]? =aj u/\z_ σ c (M q) u x:=by
 intro ks;induction ks with
 |nil=>
  intro xs cs ws h;cases xs with
  |nil=>obtain⟨rfl,rfl⟩:=bU (aF h);exact⟨rfl,rfl,[],λ_=>ao,rfl,λnm h=>(by cases h),λj nm h=>(by cases h),λ_ i j nm h=>(by cases h),λ_ _ q x hq=>by simp at hq⟩
  |cons=>simp[xO]at h
 |cons k ks ih=>
  intro xs cs ws h;cases xs with
  |nil=>simp[xO]at h
  |cons x xs=>
   obtain⟨⟨cv,w1⟩,h1,h⟩:=Rd.bind_some h;obtain⟨⟨cr,w2⟩,h2,h⟩:=Rd.bind_some h;obtain⟨rfl,rfl⟩:=bU (aF h);obtain⟨e1,m,rfl,e2,e3⟩:=UB (E:=E) (w:=w) (c:=c) h1;obtain⟨i1,i2,L,M,rfl,i4,i5,i6,i7⟩:=ih h2;refine⟨by simp[e1,i1],by simp[i2],m.toList++L,λj=>match j with|0=>m|j+1=>M j,by simp[nN], ?_, ?_, ?_, ?_⟩
   ·intro nm X8;rcases a_.1 X8 with h|h
    ·exact e2 nm (by simpa using h)
    ·exact i4 nm h
   ·intro j nm hj;cases j with
    |zero=>exact bO _ (by simpa using hj)
    |succ j=>exact bI _ (i5 j nm hj)
   ·intro He i j nm hi hj;obtain⟨n1,n2,n3⟩:=ea.1 He;cases i with
    |zero=>
     cases j with
     |zero=>rfl
     |succ j=>exact cq rfl (n3 nm (by simpa using hi) nm (i5 j nm hj))
    |succ i=>
     cases j with
     |zero=>exact cq rfl (n3 nm (by simpa using hj) nm (i5 i nm hi))
     |succ j=>rw[i6 n2 i j nm hi hj]
   ·intro vals hv q y hq;cases q with
    |zero=>cases hq;obtain⟨u,hu,ha⟩:=hv.2 0 x rfl;exact⟨u,hu,e3 u ha⟩
    |succ q=>
     have Lw:fQ E w c (vals.extract 1 vals.size) xs:=by
      refine⟨by simp;have:=hv.1;simp at this;omega,λj b hj=> ?_⟩
      obtain⟨u,hu,hb⟩:=hv.2 (j+1) b hj;refine⟨u, ?_,hb⟩
      have:=(dQ.1 hu).1;rw[dW,bC (by omega),iL];exact hu
     obtain⟨u,r1,r2⟩:=i7 _ Lw q y hq;refine⟨u, ?_,r2⟩
     rw[dW]at r1;split at r1
     ·rw[iL];exact r1
     ·cases r1
theorem I9{k:Ck}{x:AV}{cv:CV}{ws:aA (aG×eE)}(b8:Ok E σ w c)(h:(GR aq k x).val σ=aj (cv,ws)):cv.kd=k/\ws=[]/\∀u,ej E w c x u->cZ E w c.K u cv:=by
 have pl:plain [k]=ak->cv.kd=k/\ws=[]/\∀u,ej E w c x u->cZ E w c.K u cv:=by
  intro hp;have YN:cv.kd=k/\ws=[]:=by
   cases k<;>cases x<;>simp[GR,plain]at h hp<;>first
    |(obtain⟨rfl,rfl⟩:=h;exact⟨rfl,rfl⟩)
    |(split at h<;>simp at h;rename_i hk;subst hk;obtain⟨rfl,rfl⟩:=h;exact⟨rfl,rfl⟩)
  refine⟨YN.1,YN.2,λu hu=> ?_⟩
  obtain⟨_,h2,h3,_⟩:=xN hp h hu;exact kl h3 h2
 cases k with
 |i=>exact pl rfl
 |b=>exact pl rfl
 |s=>exact pl rfl
 |o=>cases x<;>simp[GR]at h
 |l e=>
  cases x with
  |nl=>obtain⟨rfl,rfl⟩:=bU (aF h);exact⟨rfl,rfl,λu hu=>by rw[show u=_ from hu];exact .nl _ _ _⟩
  |sh e' xs=>obtain⟨h1,h⟩:=cE h;obtain⟨rfl,rfl⟩:=bU (aF h);simp only[aK]at h1;have:=aX h1.1;subst this;exact⟨rfl,rfl,λu hu=>hu⟩
  |own n=>
   obtain⟨ob,hg,h⟩:=Rd.bind_some h;have hg:=dt hg;cases ob with
   |row e' s6 xs=>obtain⟨h1,h⟩:=cE h;simp at h
   |fI e' xs=>
    obtain⟨h1,h⟩:=cE h;obtain⟨rfl,rfl⟩:=bU (aF h);simp only[aK]at h1;have:=aX h1.1;subst this;refine⟨rfl,rfl,λu hu=> ?_⟩
    have hu:u=lh (c.P n):=hu;rw[hu];exact(b8.obj n _ hg).1
   |_=>simp at h
  |_=>simp[GR]at h
theorem GS(b8:Ok E σ w c):∀{ks:aA Ck} {xs:aA AV} {cs:aA CV} {ws:aA (aG×eE)} (h:(xO aq ks xs).val σ=aj (cs,ws)),cs.map CV.kd=ks/\xs.length=ks.length/\ws=[]/\
  ∀(vals:di bg),fQ E w c vals xs->∀(q:aG) (x:CV),cs[q]? =aj x->∃u:bg,vals[q]? =aj u/\cZ E w c.K u x:=by
 intro ks;induction ks with
 |nil=>
  intro xs cs ws h;cases xs with
  |nil=>obtain⟨rfl,rfl⟩:=bU (aF h);exact⟨rfl,rfl,rfl,λ_ _ q x hq=>by simp at hq⟩
  |cons=>simp[xO]at h
 |cons k ks ih=>
  intro xs cs ws h;cases xs with
  |nil=>simp[xO]at h
  |cons x xs=>
   obtain⟨⟨cv,w1⟩,h1,h⟩:=Rd.bind_some h;obtain⟨⟨cr,w2⟩,h2,h⟩:=Rd.bind_some h;obtain⟨rfl,rfl⟩:=bU (aF h);obtain⟨e1,e2,e3⟩:=I9 b8 h1;obtain⟨i1,i2,i3,i7⟩:=ih h2;refine⟨by simp[e1,i1],by simp[i2],by rw[e2,i3];rfl,λvals hv q y hq=> ?_⟩
   cases q with
   |zero=>cases hq;obtain⟨u,hu,ha⟩:=hv.2 0 x rfl;exact⟨u,hu,e3 u ha⟩
   |succ q=>
    have Lw:fQ E w c (vals.extract 1 vals.size) xs:=by
     refine⟨by simp;have:=hv.1;simp at this;omega,λj b hj=> ?_⟩
     obtain⟨u,hu,hb⟩:=hv.2 (j+1) b hj;refine⟨u, ?_,hb⟩
     have:=(dQ.1 hu).1;rw[dW,bC (by omega),iL];exact hu
    obtain⟨u,r1,r2⟩:=i7 _ Lw q y hq;refine⟨u, ?_,r2⟩
    rw[dW]at r1;split at r1
    ·rw[iL];exact r1
    ·cases r1
end
end Go.FG

namespace Go.FG
section
variable {P:cR} {E:fF} {σ:St} {a:Act} {w:bF} {c:eO} {o:e8} {nm:aG} {e:rT}
structure Inv (E:fF) (σ:St) (w:bF) (c:eO) (ex:aY) (ks:aA Ck) (vals:di bg) (z:aW) (N:aG->aG->aC aG) (S:aA aG):Prop where
 size:vals.size=z.length*ks.length
 sh:∀y∈z,y.map CV.kd=ks
 inS:∀i j nm,N i j=aj nm->nm∈S
 inj:∀i j i' j' nm,N i j=aj nm->N i' j'=aj nm->i=i'/\j=j'
 cell:∀(i:aG) (y:aA CV) (j:aG) (x:CV),z[i]? =aj y->y[j]? =aj x->∃u:bg,vals[i*ks.length+j]? =aj u/\(if ex=ak then z_ σ c (N i j) u x else cZ E w c.K u x)
theorem Inv.set{ex:aY}{ks:aA Ck}{vals:di bg}{z:aW}{N:aG->aG->aC aG}{S:aA aG}(h:Inv E σ w c ex ks vals z N S){i0:aG}(hi:i0<z.length){cs:aA CV}{vs:di bg}(hk:cs.map CV.kd=ks)(QK:vs.size=ks.length)
  {M:aG->aC aG} {L:aA aG} (hM:∀j nm,M j=aj nm->nm∈L) (hMi:∀i j nm,M i=aj nm->M j=aj nm->i=j) (hd:∀nm∈L,nm∉S)
  (hc:∀(q:aG) (x:CV),cs[q]? =aj x->∃u:bg,vs[q]? =aj u/\(if ex=ak then z_ σ c (M q) u x else cZ E w c.K u x)):
  Inv E σ w c ex ks (dY vals (i0*ks.length) vs.toList) (z.set i0 cs) (λi j=>if i=i0 then M j else N i j) (S++L):=by
 have h1:(i0+1)*ks.length<=z.length*ks.length:=b7 _ hi;rw[dc]at h1;have hb:i0*ks.length+vs.toList.length<=vals.size:=by rw[h.size,show vs.toList.length=ks.length from QK];omega
 refine⟨by rw[eS hb,cw];exact h.size, ?_, ?_, ?_, ?_⟩
 ·intro y hy;rcases gV hy with hy|hy
  ·exact h.sh y hy
  ·rw[hy];exact hk
 ·intro i j nm hn;replace hn:(if i=i0 then M j else N i j)=aj nm:=hn;split at hn
  ·exact bI _ (hM j nm hn)
  ·exact bO _ (h.inS i j nm hn)
 ·intro i j i' j' nm hn j_;replace hn:(if i=i0 then M j else N i j)=aj nm:=hn;replace j_:(if i'=i0 then M j' else N i' j')=aj nm:=j_;split at hn
  ·rename_i e1;split at j_
   ·rename_i e2;exact⟨e1.trans e2.symm,hMi j j' nm hn j_⟩
   ·exact cq (h.inS i' j' nm j_) (hd nm (hM j nm hn))
  ·split at j_
   ·exact cq (h.inS i j nm hn) (hd nm (hM j' nm j_))
   ·exact h.inj i j i' j' nm hn j_
 ·intro i y j x hy hx;rw[NU]at hy;rw[gd hb,show vs.toList.length=ks.length from QK];by_cases G_:i0=i
  ·subst G_;rw[bC rfl,bC hi]at hy;cases hy;have hj:j<ks.length:=by rw[<-hk,bQ];exact(aU.1 hx).1
   obtain⟨u,hu,hr⟩:=hc j x hx;refine⟨u, ?_,by simpa using hr⟩
   rw[bC (by omega),cQ,<-hu];congr 1;omega
  ·rw[bM G_]at hy;obtain⟨u,hu,hr⟩:=h.cell i y j x hy hx;have hj:j<ks.length:=by rw[<-h.sh y (aQ hy),bQ];exact(aU.1 hx).1
   refine⟨u, ?_,by rw[show(if i=i0 then M j else N i j)=N i j from bM (λe=>G_ e.symm)];exact hr⟩
   rw[bM ?_];exact hu;rcases NW G_ with jG|hgt
   ·have:(i0+1)*ks.length<=i*ks.length:=b7 _ jG;rw[dc]at this;omega
   ·have:(i+1)*ks.length<=i0*ks.length:=b7 _ hgt;rw[dc]at this;omega
theorem ML(b8:Ok E σ w c)(dD:e_ E σ a w c){ex:aY}{ks:aA Ck}(kH:0<ks.length):∀(ps:aA (aG×dr)) (z z':aW) (ws:aA (aG×eE)),(I8 ex ks ps z).val σ=aj (z',ws)->
  z'.length=z.length/\∃L,ws=nN L/\(∀nm∈L,∃ob,σ (cX nm)= .o ob)/\∀vals N S,(S++L).Nodup->Inv E σ w c ex ks vals z N S->
   ∃iN N',oV (λi=>aj (i*ks.length,ks.length)) vals (ps.map λ(i,x)=>(i,a.eval x))=aj iN/\Inv E σ w c ex ks iN z' N' (S++L):=by
 intro ps;induction ps with
 |nil=>intro z z' ws h;obtain⟨rfl,rfl⟩:=bU (aF h);exact⟨rfl,[],rfl,λnm h=>(by cases h),λvals N S _ hi=>⟨vals,N,rfl,by rw[dn];exact hi⟩⟩
 |cons p r ih=>
  obtain⟨i0,x⟩:=p;intro z z' ws h;obtain⟨v,h1,h⟩:=Rd.bind_some h;obtain⟨M8,hkv⟩:=lM dD h1;cases v with
  |v g ys=>
   obtain⟨h2,h⟩:=cE h;have h2:=cC h2;obtain⟨⟨cs,w1⟩,h3,h⟩:=Rd.bind_some h;obtain⟨⟨z1,w2⟩,h4,h⟩:=Rd.bind_some h;obtain⟨rfl,rfl⟩:=bU (aF h);have ng:=pM.cells M8
   have GR:cs.map CV.kd=ks/\ys.length=ks.length/\∃(L:aA aG) (M:aG->aC aG),w1=nN L/\(∀nm∈L,∃ob,σ (cX nm)= .o ob)/\(∀j nm,M j=aj nm->nm∈L)/\(L.Nodup->∀i j nm,M i=aj nm->M j=aj nm->i=j)/\
     ∀(q:aG) (x:CV),cs[q]? =aj x->∃u:bg,(a.eval ‹dr›).cells[q]? =aj u/\(if ex=ak then z_ σ c (M q) u x else cZ E w c.K u x):=by
    cases ex with
    |true=>obtain⟨q1,q2,L,M,q3,q4,q5,q6,q7⟩:=Qd (E:=E) (w:=w) (c:=c) h3;exact⟨q1,q2,L,M,q3,q4,q5,q6,λq x hq=>by simpa using q7 _ ng q x hq⟩
    |false=>obtain⟨q1,q2,q3,q4⟩:=GS b8 h3;exact⟨q1,q2,[],λ_=>ao,q3,λnm h=>(by cases h),λj nm h=>(by cases h),λ_ i j nm h=>(by cases h),λq x hq=>by simpa using q4 _ ng q x hq⟩
   obtain⟨q1,q2,L,M,rfl,q4,q5,q6,q7⟩:=GR;obtain⟨i1,L2,rfl,i3,i4⟩:=ih _ _ _ h4;rw[cw]at i1;refine⟨i1,L++L2,by simp[nN],λnm hn=>(a_.1 hn).elim (q4 nm) (i3 nm),λvals N S He hinv=> ?_⟩
   have afe:((S++L)++L2).Nodup:=by rw[cj];exact He
   obtain⟨n1,n2,n3⟩:=ea.1 afe;obtain⟨m1,m2,m3⟩:=ea.1 n1;have QK:(a.eval x).cells.size=ks.length:=by rw[ng.1,q2]
   have ae6:=hinv.set (i0:=i0) (by omega) q1 QK q5 (q6 m2) (λnm hn hs=>m3 nm hs nm hn rfl) q7;obtain⟨iN,N',f1,f2⟩:=i4 _ _ _ afe ae6;refine⟨iN,N', ?_,by rw[<-cj];exact f2⟩
   have h1:(i0+1)*ks.length<=z.length*ks.length:=b7 _ h2;rw[dc,<-hinv.size]at h1;simp only[e9,oV];rw[bM (by simp[QK];omega)];have:=Di (off:=i0*ks.length) (vs:=(a.eval x).cells) (cells:=vals) (by omega);rw[<-f1];exact mi (λq=>oV (λi=>aj (i*ks.length,ks.length)) q _) this
  |je=>simp at h
  |un=>simp at h
theorem BB{t el n:aG}{inf:Iv}{z:bg}{ks:aA Ck}{ps:di (aG×bg)}{cells:di bg}(hu:P.underlying t=aj (.slice el))(hi:P.info? el=aj inf)(fX:inf.size=ks.length)(hz:inf.zero=aj z)(hzc:z.cells=(ks.map im).toArray)
  (h24:n*ks.length<=16777216) (hf:oV (λi=>aj (i*ks.length,ks.length)) (madeCells (ks.map im).toArray (n*ks.length)) ps.toList=aj cells):
  (yE t n ps).run P w= .ok (.slice (aj (ad w.heap.size 0)) n n) (w.alloc (.cells cells el)):=by
 have amg:¬(n*ks.length>2^24):=by omega
 by_cases h0:n*ks.length=0
 ·have e0:(Array.range (n*ks.length)).map (λi=>(#[]:di bg)[i%(#[]:di bg).size]!)=madeCells (ks.map im).toArray (n*ks.length):=by rw[h0];simp[madeCells,Array.range_zero']
  simp only[yE,cg,run_underlying hu,bB,sizeOf,typeInfo,program,mI,hi,fX,cM,h0,if_true,mD];rw[h0]at e0 hf;rw[e0,hf];simp only[newRow,newObj,cg,mI,bB,cM];rfl
 ·have e0:(Array.range (n*ks.length)).map (λi=>z.cells[i%z.cells.size]!)=madeCells (ks.map im).toArray (n*ks.length):=by rw[hzc];rfl
  simp only[yE,cg,run_underlying hu,bB,sizeOf,typeInfo,program,mI,hi,fX,amg,if_false,cM,h0,zeroValue,hz,mD];rw[e0,hf];simp only[newRow,newObj,cg,mI,bB,cM];rfl
theorem ql:∀{l:aA aG},sC l=ak->l.Nodup
 |[],_=> .nil
 |n::r,h=>by
  simp only[sC,aK,dG]at h;refine j6.2 ⟨λhm=> ?_,ql h.2⟩;have:lZ n r=true:=by
   have:=h.1;clear h;induction r with
   |nil=>cases hm
   |cons m r ih=>
    rcases cz.1 hm with rfl|hm
    ·simp[lZ]
    ·simp only[lZ,ij]at this⊢;rw[ih hm this.2];simp
  rw[this]at h;cases h.1
theorem qS{α β:Type}{f:α->β}:∀{l:aA α},(l.map f).Nodup->l.Nodup
 |[],_=> .nil
 |x::l,h=>by
  rw[e9,j6]at h;exact j6.2 ⟨λhm=>h.1 (cJ.2 ⟨x,hm,rfl⟩),qS h.2⟩
theorem UL{ks:aA Ck}(hf:flat E ks=ak){e:aG}(hm:Ck.l e∈ks):∃t,E.ty e=aj t/\plain t.ks=true:=by
 have h:=bn.1 hf _ hm;replace h:(match E.ty e with|some ti=>plain ti.ks|none=>aq)=true:=h;cases ht:E.ty e with
 |none=>rw[ht]at h;cases h
 |some t=>rw[ht]at h;exact⟨t,rfl,h⟩
theorem NC(b8:Ok E σ w c){n e:aG}{ex:aY}{xs:aW}(hg:σ (cX n)= .o (.row e ex xs)){t:TI}(ht:E.ty e=aj t)(hp:plain t.ks=ak):
  (c.P n).sz=t.ks.length/\(∀y∈xs,y.map CV.kd=t.ks)/\iV w (c.P n) xs (λ_ _ u x=>Sc u x):=by
 obtain⟨⟨t2,q1,q2,q3⟩,q4,_⟩:=b8.obj n _ hg;obtain rfl:t=t2:=aF (ht.symm.trans q1);refine⟨q2,q3,q4.frame (λ_=>rfl) (λi j y x u hi hj hr=> ?_)⟩
 have hl:=gX hp (q3 y (aQ hi)) hj;split at hr
 ·exact tw hr hl
 ·exact oM hr hl
theorem P7(b8:Ok E σ w c){ks:aA Ck}(hf:flat E ks=ak){m:aC aG}{G:aG->aG->Pl}{i j:aG}(hG:G i j=match m with|some n=>c.P n|none=>JG E ks i j){u:bg}{x:CV}(hx:ks[j]? =aj x.kd){w':bF}(hw:∀b,b<w.heap.size->(∃n,m=aj n/\b=(c.P n).blk)->w'.heap[b]? =w.heap[b]?)(h:z_ σ c m u x):XC E w' G i j u x:=by
 cases x with
 |l e ys=>
  obtain⟨t,ht,hp⟩:=UL hf (aQ hx);rcases h with ⟨rfl,rfl,rfl⟩|⟨n,rfl,rfl,hg⟩
  ·refine⟨by rw[hG];rfl,t,ht,hp, ?_,λy hy=>(by cases hy),⟨by rw[hG];rfl,λ_=>⟨rfl,by rw[hG];rfl⟩,λhn=>by rw[hG]at hn;cases hn⟩⟩
   rw[hG];show(match ks[j]? with|some (.l e)=>(match E.ty e with|some t=>t.ks.length|none=>0)|_=>0)=_;rw[hx];simp only[CV.kd,ht]
  ·obtain⟨q1,q2,q3⟩:=NC b8 hg ht hp;refine⟨by rw[hG],t,ht,hp,by rw[hG];exact q1,q2, ?_⟩
   rw[hG];refine q3.frame (λhn=>hw _ (vj.lt b8 ⟨n,_,hg, .inl ⟨hn,rfl⟩⟩) ⟨n,rfl,rfl⟩) (λ_ _ _ _ _ _ _ h=>h)
 |i=>exact h
 |b=>exact h
 |s=>exact h
theorem CD(hE:eg P E)(b8:Ok E σ w c)(dD:e_ E σ a w c)(hd:∀d,o.dst=aj d->d<a.tmps.size){t n:aG}{ps:di (aG×dr)}(ho:o.op= .buildSlice t n ps)(h:(lF E nm o).val σ=aj e)(hc:e.cond=ak):gD P E σ a w c o e.ws:=by
 simp only[lF,ho]at h;obtain⟨ti,h1,h⟩:=Rd.bind_some h;have h1:=dS h1;split at h
 ·rename_i el s7 zq;obtain⟨te,h2,h⟩:=Rd.bind_some h;have h2:=dS h2;obtain⟨uS,h⟩:=cE h;obtain⟨ex0,_,h⟩:=Rd.bind_some h;obtain⟨⟨xs,ws⟩,h3,h⟩:=Rd.bind_some h;obtain⟨u,h4,h⟩:=Rd.bind_some h;obtain⟨hf,jG⟩:=j9 h4;obtain rfl:=aF h;simp only[aK]at hc;obtain⟨h24,He⟩:=hc;have h24:=cC h24;have hu:=oG hE h1 s7 zq;obtain⟨inf,hi,fX,_,kH,hz⟩:=hE.info el te h2;obtain⟨z,Ih,CB,_⟩:=hz uS;have Lp:(ex0&&flat E te.ks)=ak->flat E te.ks=true:=λh=>by simp only[aK]at h;exact h.2
  generalize (ex0&&flat E te.ks)=ex at h3 Lp⊢;obtain⟨hlen,L,rfl,hL,QG⟩:=ML (c:=c) b8 dD kH ps.toList _ _ _ h3;have He:L.Nodup:=by have:=ql He;unfold nN at this;rw[jW]at this;exact qS this
  obtain⟨vals,N,aeY,hinv⟩:=QG (madeCells (te.ks.map im).toArray (n*te.ks.length)) (λ_ _=>ao) [] (by simpa using He)
   ⟨by rw[size_madeCells];simp[aT],wy uS n,λi j nm h=>(by cases h),λi j i' j' nm h=>(by cases h),λi y j x hy hx=>by
    obtain⟨gQ,k,hk,rfl⟩:=tB hy hx;refine⟨im k,lj gQ hk, ?_⟩
    have hko:=bn.1 uS k (aQ hk);split
    ·cases k with
     |l e=>exact .inl ⟨rfl,rfl,rfl⟩
     |o=>cases hko
     |s=>exact⟨rfl,bL _⟩
     |_=>exact⟨rfl,trivial⟩
    ·exact Kn hko⟩
  rw[gk]at hinv;have hr:=BB (P:=P) (w:=w) (n:=n) (ps:=ps.map λ(i,x)=>(i,a.eval x)) hu hi fX Ih CB h24 (by rw[yZ];exact aeY);have Jx:xs.length=n:=by rw[hlen];simp[aT]
  let g:aG->aG->Pl:=λi j=>match N i j with|some m=>c.P m|none=>JG E te.ks i j
  let c':eO:=⟨λm=>if m=nm then⟨aq,w.heap.size,0,n,n,te.ks.length⟩else c.P m,λm=>if m=nm then g else c.G m,c.K⟩
  have hP:c'.P nm=⟨aq,w.heap.size,0,n,n,te.ks.length⟩:=bC rfl;have hG:c'.G nm=g:=bC rfl;have hA:jj σ c c':=λm hm=>by
   have:m≠nm:=by rintro rfl;rcases hm with h|h;exact h hf;omega
   exact⟨bM this,bM this⟩
  have gN:∀i j,(g i j).nil=aq->∃m ob,N i j=aj m/\g i j=c.P m/\m∈L/\σ (cX m)= .o ob:=by
   intro i j hn;cases hm:N i j with
   |none=>simp only[g,hm]at hn;cases hn
   |some m=>obtain⟨ob,mn⟩:=hL m (hinv.inS i j m hm);exact⟨m,ob,rfl,by simp only[g,hm],hinv.inS i j m hm,mn⟩
  have inn:∀i j,ex=ak->fZ xs i j->(g i j).nil=aq->∃m el2 ys,N i j=aj m/\g i j=c.P m/\m∈L/\σ (cX m)= .o (.row el2 ak ys)/\(c.P m).nil=false:=by
   rintro i j hex ⟨y,x,hy,hx,hl⟩ hn;obtain⟨m,ob,q1,q2,q3,q4⟩:=gN i j hn;obtain⟨u,_,hr⟩:=hinv.cell i y j x hy hx;rw[bC hex,q1]at hr;cases x with
   |l e2 ys=>
    rcases hr with ⟨h,_⟩|⟨m',h,_,hg⟩
    ·cases h
    ·cases h;exact⟨m,e2,ys,q1,q2,q3,hg,by rw[<-q2];exact hn⟩
   |i=>simp[s8]at hl
   |b=>simp[s8]at hl
   |s=>simp[s8]at hl
  have QL:∀b,b<w.heap.size->(w.alloc (.cells vals el)).heap[b]? =w.heap[b]? :=λb hb=>heap_alloc_old w _ b hb;have mem:∀m x,(m,x)∈Db L++[(nm,Obj.row el ex xs)]->(m∈L/\x= .dead)\/(m=nm/\x= .row el ex xs):=by
   intro m x hm;rcases a_.1 hm with hm|hm
   ·unfold Db at hm;obtain⟨q,hq,h⟩:=cJ.1 hm;cases h;exact .inl ⟨hq,rfl⟩
   ·rw[aZ]at hm;cases hm;exact .inr ⟨rfl,rfl⟩
  have hws:nN L++(cX nm,eE.o (.row el ex xs))::dw o (.v aq [.own nm])=jQ (Db L++[(nm,Obj.row el ex xs)])++dw o (.v aq [.own nm]):=by rw[AL];unfold jQ;simp
  show gD P E σ a w c o (nN L++(cX nm,eE.o (.row el ex xs))::dw o (.v aq [.own nm]));rw[hws];refine Jl b8 dD hd (c':=c') (w':=w.alloc (.cells vals el)) (v:= .slice (aj (ad w.heap.size 0)) n n) hA ?_ ?_ ?_ ?_ (λ_ h=>h) (λ_ h=> .inl h) (λb hb=>jd (b8.lt b hb) (by simp)) (λb hb _=>QL b hb) (by simp) rfl rfl rfl ?_ ?_ ?_
  ·intro m x hm;rcases mem m x hm with ⟨_,rfl⟩|⟨rfl,rfl⟩
   ·trivial
   ·refine⟨⟨te,h2,by rw[hP],hinv.sh⟩, ?_,λhex=> ?_⟩
    ·rw[hP,hG];refine⟨Jx.symm,λhn=>(by cases hn),λ_=>⟨vals,nq.alloc w _ el,cu _, ?_, ?_,λi y j x hy hx=> ?_⟩⟩
     ·show n<=2^63-1;have:n*1<=n*te.ks.length:=Nat.mul_le_mul_left _ kH;omega
     ·rw[hinv.size,Jx];simp
     ·obtain⟨u,rA,Cx⟩:=hinv.cell i y j x hy hx;refine⟨u,by simpa using rA, ?_⟩
      split at Cx
      ·rename_i hex;rw[bC hex];refine P7 b8 (Lp hex) rfl ?_ (λb hb _=>QL b hb) Cx;rw[<-hinv.sh y (aQ hy),bE,hx];rfl
      ·rename_i hex;rw[bM hex];exact Cx.frame (λb hb=>QL b (b8.lt b hb)) (λ_ h=>h)
    ·rw[hP,hG];refine⟨λi j hh hn _=> ?_,λi j i' j' hh zo hn j_ hbk=> ?_⟩
     ·obtain⟨m',e2,ys,_,q2,_,q4,q5⟩:=inn i j hex hh hn;have:(c.P m').blk<w.heap.size:=vj.lt b8 ⟨m',_,q4, .inl ⟨q5,rfl⟩⟩;rw[q2];show(c.P m').blk≠w.heap.size;omega
     ·obtain⟨m1,e1,y1,p1,p2,_,p4,p5⟩:=inn i j hex hh hn;obtain⟨m2,e2,y2,r1,r2,_,r4,r5⟩:=inn i' j' hex zo j_;rw[p2,r2]at hbk;have:=b8.sep m1 _ m2 _ _ p4 r4 (.inl ⟨p5,rfl⟩) (.inl ⟨r5,hbk⟩);subst this;exact hinv.inj i j i' j' m1 p1 r1
  ·intro m x b hm pq;rcases mem m x hm with ⟨_,rfl⟩|⟨rfl,rfl⟩
   ·exact pq.elim
   ·rcases pq with ⟨_,rfl⟩|⟨hex,i,j,hh,hn,rfl⟩
    ·rw[hP];exact⟨.inr (cu _),λhk=>by have:=b8.lt _ hk;exact cq this (bu _)⟩
    ·rw[hG]at hn⊢;obtain⟨m',e2,ys,_,q2,q3,q4,q5⟩:=inn i j hex hh hn;rw[q2];refine⟨.inl ⟨m',_,⟨.dead,bO _ (cJ.2 ⟨m',q3,rfl⟩)⟩,q4, .inl ⟨q5,rfl⟩⟩,b8.kk m' _ _ q4 (.inl ⟨q5,rfl⟩)⟩
  ·intro m x m' x' b hm vN pq Qy;rcases mem m x hm with ⟨_,rfl⟩|⟨rfl,rfl⟩
   ·exact pq.elim
   ·rcases mem m' x' vN with ⟨_,rfl⟩|⟨rfl,rfl⟩
    ·exact Qy.elim
    ·rfl
  ·intro m zs hm;rcases mem m _ hm with ⟨_,h⟩|⟨_,h⟩<;>cases h
  ·show _=lh (c'.P nm);rw[hP];rfl
  ·intro m hm;have:m=nm:=by simpa [cD,bJ]using hm
   subst this;exact .inr ⟨_,bI _ (aZ.2 rfl)⟩
  ·unfold execOp;rw[ho];exact iF hr
 ·simp at h
end
end Go.FG

namespace Go.FG
section
variable {P:cR}
def lC(elem:TypeId)(size:aG)(base:aC Addr)(sLen sCap:aG)(s x:bg)(aT:aY)(n:aG)(Gx:Sem (di bg)):Sem bg:=
 if sLen+n<=sCap then do
  let new<-Gx
  if let aj a:=base then storeCells (a.add (sLen*size)) new.toList
  pure (.slice base (sLen+n) sCap)
 else do
  if((sLen+n:aG):az)>ar.max/\(aT\/(<-typeInfo elem).bytes=0)then runtimePanic (.error "growslice: len out of range")
  if FM (sLen+n) sCap*(<-typeInfo elem).bytes>2^48 then(if aT then runtimePanic (.error "growslice: len out of range")else do
   if !(<-Builtin.mayShare size sLen n base x)then mark .noRoom
   unsupported (.resourceLimit "append: a slice or a string whose bytes no memory bears"))
  let JF<-choose (.appendCap (sLen+n) sCap elem)
  askRoom (JF*(<-typeInfo elem).bytes)
  let old<-e7 size sLen s
  let new<-Gx
  let rest:=fw (<-zeroValue elem).cells (JF-(sLen+n))
  pure (.slice (aj (<-newRow elem (old++new++rest))) (sLen+n) JF)
theorem yp{w:bF}{t u ty el:aG}{inf:Iv}(hu:P.underlying t=aj (.slice el))(hi:P.info? el=aj inf)(hd:(∃e',P.underlying u=aj (.slice e'))\/P.underlying u=aj .string)
  {base:aC Addr} {sLen sCap m:aG} {x:bg} (hl:(oU x).run P w= .ok m w):
  (g8 #[t,u] ty #[.slice base sLen sCap,x]).run P w=(lC el inf.size base sLen sCap (.slice base sLen sCap) x aq m (e7 inf.size m x)).run P w:=by
 have hs:(sizeOf el).run P w= .ok inf.size w:=by simp[sizeOf,typeInfo,hi]
 rcases hd with ⟨e',hd⟩|hd<;>
  (simp only[g8,gU,rF,dI,cg,run_underlying hu,run_underlying hd,bB,hs,cM,hl,dp,if_false,bX,if_true,false_or,mD]
   unfold lC
   simp only[mD,cg,dp,if_false,false_or,cM]
   try rfl)
theorem Bz{w:bF}{t u ty el:aG}{inf:Iv}(hu:P.underlying t=aj (.slice el))(hi:P.info? el=aj inf){k:mH}(hd:P.underlying u=aj (.int k))
  {base:aC Addr} {sLen sCap m:aG} {x:bg} {k':mH} (hx:x= .int k' (m:az)) (h1:m<=9223372036854775807) (h2:m*inf.bytes<=140737488355328):
  (g8 #[t,u] ty #[.slice base sLen sCap,x]).run P w=(lC el inf.size base sLen sCap (.slice base sLen sCap) x ak m (if m*inf.size=0 then pure #[]else do pure (fw (<-zeroValue el).cells m))).run P w:=by
 have hs:(sizeOf el).run P w= .ok inf.size w:=by simp[sizeOf,typeInfo,hi]
 have ht:∀W,(typeInfo el).run P W= .ok inf W:=λW=>by simp[typeInfo,hi]
 have hw:ar.wrap (m:az)=m:=by rw[pF];omega
 have c1:¬((m:az)<0):=by omega
 have c2:¬((m:az)*(inf.bytes:az)>2^48):=by
  have a2:((m*inf.bytes:aG):az)<=140737488355328:=by generalize m*inf.bytes=q at h2;omega
  rw[Ub]at a2;generalize (m:az)*(inf.bytes:az)=q at a2;have:(2:az)^48=281474976710656:=by decide
  omega
 subst hx;have ha:(asInt (.int k' (m:az))).run P w= .ok (m:az) w:=by simp[asInt,asIntOf]
 simp only[g8,gU,rF,dI,cg,run_underlying hu,run_underlying hd,bB,hs,ht,ha,hw,c1,c2,cM,if_false,ba,dp,if_true,mD,dA];unfold lC;simp only[mD,cg,if_true,true_or,and_true,cM,ht,bB];try rfl
theorem CJ{w w':bF}{el size sLen sCap m:aG}{a:Addr}{s x:bg}{zs:aY}{app:Sem (di bg)}{news:aA bg}(ha:app.run P w= .ok news.toArray w)(h:sLen+m<=sCap)(Ju:(storeCells (a.add (sLen*size)) news).run P w= .ok () w'):
  (lC el size (aj a) sLen sCap s x zs m app).run P w= .ok (.slice (aj a) (sLen+m) sCap) w':=by unfold lC;rw[bC h];simp only[cg,ha,bB,Ju,cM]
theorem CI{w:bF}{el size sCap:aG}{s x:bg}{zs:aY}{app:Sem (di bg)}{news:aA bg}(ha:app.run P w= .ok news.toArray w):
  (lC el size ao 0 sCap s x zs 0 app).run P w= .ok (.slice ao 0 sCap) w:=by unfold lC;rw[bC (bL _)];simp only[cg,ha,bB,cM]
theorem CH{w:bF}{el size sLen sCap m:aG}{base:aC Addr}{s x:bg}{zs:aY}{app:Sem (di bg)}{oO news:aA bg}{inf:Iv}{z:bg}(hi:P.info? el=aj inf)(hz:inf.zero=aj z)
  (h:¬sLen+m<=sCap) (h63:sLen+m<=9223372036854775807) (h48:(sLen+m)*inf.bytes<=140737488355328)
  (ho:(e7 size sLen s).run P w.drew= .ok oO.toArray w.drew) (ha:app.run P w.drew= .ok news.toArray w.drew):
  (lC el size base sLen sCap s x zs m app).run P w= .ok (.slice (aj (ad w.heap.size 0)) (sLen+m) (grownCap w (sLen+m) sCap el))
   (w.drew.alloc (.cells (oO.toArray++news.toArray++fw z.cells (grownCap w (sLen+m) sCap el-(sLen+m))) el)):=by
 have ht:∀W,(typeInfo el).run P W= .ok inf W:=λW=>by simp[typeInfo,hi]
 have hzv:∀W,(zeroValue el).run P W= .ok z W:=λW=>by simp[zeroValue,typeInfo,hi,hz]
 have c1:¬(((sLen+m:aG):az)>ar.max/\(zs=ak\/inf.bytes=0)):=by
  have:ar.max=9223372036854775807:=by decide
  rintro ⟨h,_⟩;omega
 have c2:¬(FM (sLen+m) sCap*inf.bytes>2^48):=by
  have:=growslice_fits (need:=sLen+m) (old:=sCap) (bytes:=inf.bytes) (by omega) h48;have e:2^48=281474976710656:=by decide
  omega
 have TN:(choose (.appendCap (sLen+m) sCap el)).run P w= .ok (grownCap w (sLen+m) sCap el) w.drew:=by rw[run_choose_drew];rfl
 have amk:∀n W,(askRoom n).run P W= .ok () W:=λn W=>by simp only[askRoom];split<;>simp
 have xR:∀cs,(newRow el cs).run P w.drew= .ok (ad w.heap.size 0) (w.drew.alloc (.cells cs el)):=λcs=>by simp only[newRow,newObj,cg,mI,bB,cM];rfl
 unfold lC;rw[bM h];simp only[cg,ht,bB,c1,c2,if_false,TN,amk,ho,ha,hzv,xR,cM,mD]
structure App (P:cR) (w:bF) (u:aG) (x:bg) (z:di bg) (sz m:aG) (news:aA bg):Prop where
 h:(((∃e',P.underlying u=aj (.slice e'))\/P.underlying u=aj .string)/\(oU x).run P w= .ok m w/\(e7 sz m x).run P w= .ok news.toArray w/\(e7 sz m x).run P w.drew= .ok news.toArray w.drew)\/
  ((∃k,P.underlying u=aj (.int k))/\(∃k',x= .int k' (m:az))/\news=(fw z m).toList)
 len:news.length=m*sz
 one:∀v∈news,v.oneCell'=ak
structure aal (w w':bF) (p p':Pl) (m:aG) (news:aA bg):Prop where
 n:p'.n=p.n+m
 sz:p'.sz=p.sz
 nil:p'.nil=ak->p'.cap=0/\p.n=0/\m=0
 mem:p'.nil=aq->∃iN,nq w' p'.blk iN/\p'.n<=p'.cap/\p'.cap<=maxLen/\p'.off+p'.cap*p'.sz<=iN.size/\
  (∀k u,k<p.n*p.sz->w.cell? (ad p.blk (p.off+k))=aj u->iN[p'.off+k]? =aj u)/\(∀k,k<m*p.sz->iN[p'.off+p.n*p.sz+k]? =news[k]?)
 blk:p'.nil=aq->(p.nil=aq/\p'.blk=p.blk)\/p'.blk=w.heap.size
 old:∀b,b<w.heap.size->(p'.nil=aq->b≠p'.blk)->w'.heap[b]? =w.heap[b]?
 size:w.heap.size<=w'.heap.size
 os:w'.os=w.os
 tape:w'.tape=w.tape
 output:w'.output=w.output
theorem sJ{w:bF}{t u ty el:aG}{inf:Iv}{z:bg}{p:Pl}{x:bg}{m:aG}{news:aA bg}(hu:P.underlying t=aj (.slice el))(hi:P.info? el=aj inf)(hz:inf.zero=aj z)(N_:z.cells.size=p.sz)(fX:inf.size=p.sz)
  (jg:p.nil=ak->p.n=0) (abx:p.nil=aq->∃vals,nq w p.blk vals/\p.n<=p.cap/\p.cap<=maxLen/\p.off+p.cap*p.sz<=vals.size)
  (hx:App P w u x z.cells p.sz m news) (h1:(p.n+m)*inf.bytes<=140737488355328) (h2:p.n+m<=9223372036854775807):
  ∃p' w',(g8 #[t,u] ty #[lh p,x]).run P w= .ok (lh p') w'/\aal w w' p p' m news:=by
 have hmb:m*inf.bytes<=140737488355328:=db (b7 _ (by omega)) h1;have hzv:∀W,(zeroValue el).run P W= .ok z W:=λW=>by simp[zeroValue,typeInfo,hi,hz]
 have hml:p.n+m<=maxLen:=by simp only[maxLen];omega
 have tail:∀(base:aC Addr) (sLen sCap:aG),∃(zs:aY) (app:Sem (di bg)),(g8 #[t,u] ty #[.slice base sLen sCap,x]).run P w=(lC el p.sz base sLen sCap (.slice base sLen sCap) x zs m app).run P w/\
   app.run P w= .ok news.toArray w/\app.run P w.drew= .ok news.toArray w.drew:=by
  intro base sLen sCap
  rcases hx.h with ⟨hd,hl,hf,hf2⟩|⟨⟨k,hk⟩,⟨k',hxv⟩,hn⟩
  ·have:=yp (P:=P) (w:=w) (ty:=ty) hu hi hd (base:=base) (sLen:=sLen) (sCap:=sCap) hl;rw[fX]at this;exact⟨_,_,this,hf,hf2⟩
  ·have:=Bz (P:=P) (w:=w) (ty:=ty) hu hi hk (base:=base) (sLen:=sLen) (sCap:=sCap) hxv (by omega) hmb;rw[fX]at this;refine⟨_,_,this, ?_, ?_⟩
   ·rw[hn];split
    ·rename_i h0;have:fw z.cells m= #[]:=yY (by rw[size_zeroCells,N_,h0]);rw[this];rfl
    ·simp only[cg,hzv,bB,cM,sQ]
   ·rw[hn];split
    ·rename_i h0;have:fw z.cells m= #[]:=yY (by rw[size_zeroCells,N_,h0]);rw[this];rfl
    ·simp only[cg,hzv,bB,cM,sQ]
 have grow:∀(base:aC Addr) (sCap:aG) (oO:aA bg) (zs:aY) (app:Sem (di bg)),¬p.n+m<=sCap->oO.length=p.n*p.sz->(∀k u,k<p.n*p.sz->w.cell? (ad p.blk (p.off+k))=aj u->oO[k]? =aj u)->
   (e7 p.sz p.n (.slice base p.n sCap)).run P w.drew= .ok oO.toArray w.drew->app.run P w.drew= .ok news.toArray w.drew->
   ∃p' w',(lC el p.sz base p.n sCap (.slice base p.n sCap) x zs m app).run P w= .ok (lh p') w'/\aal w w' p p' m news:=by
  intro base sCap oO zs app hc FX M8 hf ha
  have hr:=CH (P:=P) (w:=w) (size:=p.sz) (zs:=zs) (x:=x) (base:=base) hi hz hc h2 h1 hf ha
  refine⟨⟨aq,w.heap.size,0,grownCap w (p.n+m) sCap el,p.n+m,p.sz⟩,_,hr,⟨rfl,rfl,λh=>(by cases h),λ_=> ?_,λ_=> .inr rfl,λb hb _=>heap_alloc_old w.drew _ b hb,by simp,rfl,rfl,rfl⟩⟩
  have X2:=grownCap_ge w (p.n+m) sCap el
  refine⟨_,⟨_,_,heap_alloc_new w.drew _,λq _=>by simp⟩,X2,grownCap_le_maxLen w _ _ _ hml, ?_,λk u hk rA=> ?_,λk hk=> ?_⟩
  ·simp only[Array.size_append,TE,size_zeroCells,N_,FX,hx.len,<-dc,bT];exact b7 _ (by omega)
  ·rw[bT,Ms,CL (by simpa [FX]using hk),gU];exact M8 k u hk rA
  ·rw[bT,Ms,Array.getElem?_append_right (by simp[FX]),CL (by simp[FX,hx.len];omega),gU];congr 1;simp[FX]
 cases hq:p.nil with
 |true=>
  have hn:=jg hq;rw[mU hq];obtain⟨zs,app,hr,ha,ha2⟩:=tail ao 0 0;rw[hr];by_cases hm:m=0
  ·subst hm;refine⟨⟨ak,0,0,0,0,p.sz⟩,w,CI ha,⟨by simp[hn],rfl,λ_=>⟨rfl,hn,rfl⟩,λh=>(by cases h),λh=>(by cases h),λ_ _ _=>rfl,cu _,rfl,rfl,rfl⟩⟩
  ·have:=grow ao 0 [] zs app (by omega) (by simp[hn]) (λk u hk=>by rw[hn]at hk;simp at hk) (by rw[hn];exact run_firstCells_none _ _ _ _ _) ha2;rwa[hn]at this
 |false=>
  rw[eP hq];obtain⟨vals,hb,QC,Qv,nD⟩:=abx hq;obtain⟨zs,app,hr,ha,ha2⟩:=tail (aj (ad p.blk p.off)) p.n p.cap;rw[hr];have hle:p.n*p.sz<=p.cap*p.sz:=b7 _ QC;by_cases hc:p.n+m<=p.cap
  ·have uc:p.off+p.n*p.sz+news.length<=vals.size:=by have:(p.n+m)*p.sz<=p.cap*p.sz:=b7 _ hc;rw[dc]at this;rw[hx.len];omega
   have Ju:=mX (P:=P) w hb uc hx.one;have hrr:=CJ (P:=P) (s:= .slice (aj (ad p.blk p.off)) p.n p.cap) (x:=x) (el:=el) (size:=p.sz) (zs:=zs) ha hc (by rw[Addr.nA];exact Ju);refine⟨⟨aq,p.blk,p.off,p.cap,p.n+m,p.sz⟩,_,hrr,⟨rfl,rfl,λh=>(by cases h),λ_=>⟨_,hb.setRow (eS uc),hc,Qv,by rw[eS uc];exact nD,λk u hk rA=> ?_,λk hk=> ?_⟩,λ_=> .inl ⟨hq,rfl⟩,λb _ N4=>setRow_other w _ b _ (N4 rfl),by simp[kV],rfl,rfl,rfl⟩⟩
   ·show(dY vals (p.off+p.n*p.sz) news)[p.off+k]? =aj u;rw[gd uc,bM (by omega),<-hb.cell];exact rA
   ·show(dY vals (p.off+p.n*p.sz) news)[p.off+p.n*p.sz+k]? =news[k]?;rw[gd uc,bC (by rw[hx.len];omega)];congr 1;omega
  ·have hcell:∀k,k<p.n*p.sz->w.cell? (ad p.blk (p.off+k))=vals[p.off+k]? :=λk _=>hb.cell _;let oO:=(vals.toList.drop p.off).take (p.n*p.sz);have FX:oO.length=p.n*p.sz:=by simp only[oO,eu,ia,dN];omega
   have M8:∀k u,k<p.n*p.sz->w.cell? (ad p.blk (p.off+k))=aj u->oO[k]? =aj u:=λk u hk rA=>by rw[hcell k hk]at rA;simp only[oO,dV,bC hk,dM,cQ,rA]
   refine grow (aj (ad p.blk p.off)) p.cap oO zs app hc FX M8 ?_ ha2;refine run_firstCells_some w.drew p.sz p.n _ _ _ oO FX (λj v hj=> ?_);have jF:j<p.n*p.sz:=by rw[<-FX];exact(aU.1 hj).1
   simp only[oO,dV,bC jF,dM,cQ]at hj;rw[Addr.nA];have:=hcell j jF;rw[hj]at this;simpa using this
end
end Go.FG

