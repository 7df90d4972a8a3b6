/- An evaluator for the part of the language that this program uses, proved sound over the model: states told as values and lists; what an evaluation tells, the call does. No condition. -/
import Derived.Calls
import Derived.Orders
import Derived.Below
import Derived.Laws.AppendOwn
import Derived.Laws.Slices
import Derived.Laws.StructEq
import Derived.Laws.Tables
import Derived.Laws.MakeOwn
import Derived.Laws.IdiomStrings
import Derived.Laws.BytesArg
import Derived.Laws.NewFold
import Derived.SizedLaws
import Derived.Carry
import Derived.ProofKit
import Derived.KernelRfl
import Derived.Laws.Strings
set_option linter.unusedVariables false
set_option linter.unusedSimpArgs false
set_option maxRecDepth 100000
open Array renaming getElem?_eq_some_iff->dN,getD_eq_getD_getElem?->ed,getElem?_setIfInBounds->nJ,toArray_toList->sV,getElem?_toList->cO,ext'->rI,length_toList->dK,toList_map->zd,getElem?_map->My,getElem?_extract->dS,eq_empty_of_size_eq_zero->zc,append_assoc->Mx,getElem?_append_left->CQ
open BitVec renaming ofInt->b_
open Bool renaming false->aq,true->ak,false_eq_true->dj,and_eq_true->aK,not_eq_true'->dD,and_assoc->mZ,or_eq_false_iff->ie,not_false->bX,not_true->ba
open ByteArray renaming size_extract->wE,size_append->dz,empty->FT,size->gh
open Go renaming IntKind->mI,Value->bg,Operand->dn,Oper->eV,World->bF,Program->cQ,TypeInfo->IB
open Go.Act renaming put->TA,eval->Gm
open Go.Builtin renaming len_->vf,max2->CU,min2->CW,clear_->od,zeroCells->fc,nextslicecap->FU,firstCells->eU,lenOf->oX,append_->gY
open Go.Instr renaming loadAt->wR,sureAddr->tG,storeAt->Ub,fieldAt->T_,indexAt->Ua,sliceBound->qv,sliceBounds->mz,sliceAt->pW,fill->oY,buildSlice->yJ
open Go.IntKind renaming i64->ar,wrap_i64->pI
open Go.Op renaming bytesLess->cf
open Go.Oper renaming wp->MC
open Go.Region renaming binds->mg
open Go.Result renaming andThen_ok->bB
open Go.Sem renaming run_bind->cg,run_pure->cL,run->mJ,run_ite->mF
open Go.World renaming frozen?->Xo,cell?_of_block->tH,setRow->kV
open Int renaming toNat_natCast->dx,natCast_mul->Ud
open List renaming mem_cons_of_mem->cU,mem_cons->cz,mem_cons_self->du,mem_flatMap->bG,mem_of_getElem?->aQ,append_nil->di,length_nil->jr,getElem?_toArray->gQ,append_assoc->cj,getElem?_append_left->dg,getElem?_take->dR,getElem?_append_right->cZ,getElem?_drop->dJ,length_eq_one_iff->gD,getElem?_cons_succ->dF,getD->jq,getElem?_map->bE,getElem_mem->bD,mem_map->cG,all_eq_true->bn,range->cM,getElem?_range->uD,getElem?_eq_none->kB,getElem?_eq_some_iff->aU,mem_of_mem_drop->kC,mem_of_mem_take->kD,getElem?_of_mem->bZ,map_toArray->Cf,map_cons->eW,map_nil->Av,ext_getElem?->TF,eq_nil_of_length_eq_zero->fQ,mem_append->a_,length_cons->c5,foldl_cons->Ce,map_map->jU,map_congr_left->vn,size_toArray->TH,length_map->bP,getD_eq_getElem?_getD->cK,getElem?_set->N1,all_cons->r_,length_take->eg,length_drop->hZ,length_singleton->bw,mem_append_left->bN,mem_append_right->bH,nodup_append->dX,length_set->cw,mem_or_eq_of_mem_set->gT,nodup_cons->j5,nil_append->gg,mem_singleton->aZ,getElem?_cons_zero->rJ
open List.cons renaming injEq->XO
open Nat renaming beq->bA,blt->pZ,ble->e9,le_refl->cu,le_trans->c_,lt_of_lt_of_le->jb,eq_of_beq_eq_true->aW,add_zero->wT,add_assoc->lC,le_of_ble_eq_true->cC,add_mul->da,zero_le->bK,mul_le_mul_right->b7,eq_zero_or_pos->B0,div_lt_iff_lt_mul->wF,mod_lt->B3,div_add_mod->Ig,mul_comm->CY,zero_add->bT,lt_or_gt_of_ne->N3,add_comm->iK,sub_self->wU,sub_zero->uF,lt_irrefl->bu
open Option renaming some->aj,none->ao,map_some->iQ,getD_some->wV
open Option.some renaming inj->aF,injEq->jf
open Prod.mk renaming inj->bU,injEq->iR
open UInt8 renaming ofNat->ax
open _root_ renaming Nat->aG,Int->aA,Bool->aY,ByteArray->au,List->az,Option->aD,Array->de,if_pos->bC,if_neg->bL,absurd->cq,cond_true->ay,cond_false->aC,decide_eq_true_eq->bf,of_decide_eq_true->b9,congrArg->ml
namespace Go.FG
inductive Ck where
 |i (k:mI)|b|s|l (e:aG)|o
inductive CV where
 |i (k:mI) (n:aA)|b (x:aY)|s (x:au)|l (e:aG) (xs:az (az CV))
abbrev aX:=az (az CV)
def CV.kd:CV->Ck
 | .i k _=> .i k| .b _=> .b| .s _=> .s| .l e _=> .l e
def bY:CV->aA| .i _ n=>n|_=>0
def cvB:CV->aY| .b x=>x|_=>aq
def bQ:CV->au| .s x=>x|_=>⟨#[]⟩
def ju:CV->aX| .l _ xs=>xs|_=>[]
def aw(xs:aX)(i j:aG):CV:=(xs.getD i []).getD j (.b aq)
inductive AV where
 |i (k:mI) (n:aA)|b (x:aY)|s (x:au)
 |sh (e:aG) (xs:aX)
 |nl
 |own (nm:aG)
 |vw (nm lo hi:aG)
 |bp (nm j:aG)
 |rp (nm i j:aG)
 |sp (e:aG) (xs:aX) (i j:aG)
 |inn (nm i j:aG)
 |ip (nm i j i2 j2:aG)
 |fn (f:aG) (iA:az (az CV))
 |fp (xs:az CV) (j:aG)
inductive SV where
 |v (agg:aY) (xs:az AV)|jc (xs:az (aY×az AV))|un
inductive Obj where
 |box (xs:az AV)|nC (xs:az CV)|row (e:aG) (ex:aY) (xs:aX)|fE (e:aG) (xs:aX)|dead
inductive eu where
 |v (x:SV)|o (x:Obj)|jE
def xX(n:aG):aY:=bA (n%1000) 999&&pZ n 900000000
abbrev St:=aG->eu
def pf(s:St)(k:aG)(c:eu):St:=λn=>bif bA n k then c else s n
def wr(s:St):az (aG×eu)->St
 |[]=>s
 |(k,c)::r=>wr (pf s k c) r
def pU(n:aG):aG:=2*n
def cW(n:aG):aG:=2*n+1
inductive Rd (α:Type) where
 |ret (a:α)|fail|get (k:aG) (f:eu->Rd α)
def Rd.bind{α β:Type}:Rd α->(α->Rd β)->Rd β
 | .ret a,f=>f a
 | .fail,_=> .fail
 | .get k g,f=> .get k λc=>(g c).bind f
def Rd.run{α:Type}:Rd α->St->az aG->aD (α×az aG)
 | .ret a,_,l=>aj (a,l)
 | .fail,_,_=>ao
 | .get k f,s,l=>(f (s k)).run s (k::l)
structure TI where
 agg:aY
 ks:az Ck
 bytes:aG
inductive AA where
 |i (k:mI) (n:aA)|b (x:aY)|s (x:au)|sh (e:aG) (xs:aX)|nl
 |ow (e:aG) (ex:aY) (xs:aX)|kp (xs:aX)|fn (f:aG) (iA:az (az CV))
inductive eR where
 |v (agg:aY) (xs:az AA)|pt (xs:az AA)|fb (xs:az CV)
structure dM where
 rs:az eR
 outs:az (az AA)
structure Tab where
 ty:aG->aD TI
 fo:aG->aG->aD (aG×aG)
 eqs:az aG
 Qo:aG->aG->aY:=λ_ _=>aq
inductive Om where
 |nat|own (e:aG)|sh (e:aG)
structure fB extends Tab where
 call:aG->az eR->aD (aY×dM)
 om:aG->aG->Om
 mode:aG->aG->aY
 keep:aG->az aG
 tk:aG->aY
instance:Coe fB Tab:=⟨fB.toTab⟩
structure rX where
 cond:aY
 ws:az (aG×eu)
def l_(n:aG):az aG->aY
 |[]=>aq|m::r=>bA n m||l_ n r
def cst:bg->SV
 | .int k n=> .v aq [.i k n]| .bool x=> .v aq [.b x]| .string x=>bif e9 x.size 4611686018427387904 then .v aq [.s x]else .un
 | .slice ao 0 0=> .v aq [.nl]
 |_=> .un
def Fp(x:dn):Rd SV:=
 match x with
 | .tmp t=> .get (pU t) λ| .v x=> .ret x|_=> .ret .un
 | .const v=> .ret (cst v)
 | .func f=> .ret (.v aq [.fn f []])
 | .global _=> .fail
def jl(nm:aG):Rd Obj:= .get (cW nm) λ| .o x=> .ret x|_=> .fail
def fresh(nm:aG):Rd Unit:= .get (cW nm) λ| .jE=>bif e9 nm 899999999 then .ret ()else .fail|_=> .fail
def qY(x:dn):Rd AV:=(Fp x).bind λ| .v aq [a]=> .ret a|_=> .fail
def Bp(x:dn):Rd (mI×aA):=(qY x).bind λ| .i k n=> .ret (k,n)|_=> .fail
def dw(o:eV)(v:SV):az (aG×eu):=match o.dst with|some d=>[(pU d, .v v)]|none=>[]
def val(o:eV)(v:SV):Rd rX:= .ret ⟨ak,dw o v⟩
def yC(o:eV)(v:AV):Rd rX:=val o (.v aq [v])
def Kj(o:eV)(c:aY)(v:AV):Rd rX:= .ret ⟨c,dw o (.v aq [v])⟩
def rS(E:fB)(t:aG):Rd TI:=match E.ty t with|some i=> .ret i|none=> .fail
def pA(E:fB)(t:aG):Rd Ck:=(rS E t).bind λti=>match ti.agg,ti.ks with|false,[k]=> .ret k|_,_=> .fail
def BV:Ck->AV
 | .i k=> .i k 0| .b=> .b aq| .s=> .s ⟨#[]⟩| .l _=> .nl| .o=> .nl
def yF:Ck->CV
 | .i k=> .i k 0| .b=> .b aq| .s=> .s ⟨#[]⟩| .l e=> .l e []| .o=> .b aq
def JO(ks:az Ck):aY:=ks.all λ| .o=>aq|_=>ak
def dec:Ck->CV->AV
 | .i k,x=> .i k (bY x)| .b,x=> .b (cvB x)| .s,x=> .s (bQ x)| .l e,x=> .sh e (ju x)| .o,_=> .nl
def tT(xs:aX)(i:aG):aG->az Ck->az AV
 |_,[]=>[]
 |j,k::ks=>dec k (aw xs i j)::tT xs i (j+1) ks
def zq(nm:aG)(xs:aX)(i:aG):aG->az Ck->az AV
 |_,[]=>[]
 |j, .l _::ks=> .inn nm i j::zq nm xs i (j+1) ks
 |j,k::ks=>dec k (aw xs i j)::zq nm xs i (j+1) ks
def Wv:CV->AV
 | .i k n=> .i k n| .b x=> .b x| .s x=> .s x| .l e xs=> .sh e xs
def iF{α:Type}(xs:az α)(j:aG)(ys:az α):az α:=xs.take j++ys++xs.drop (j+ys.length)
def eh(xs:aX)(i j:aG)(ys:az CV):aX:=xs.set i (iF (xs.getD i []) j ys)
def avf(agg:aY)(xs:az AV):SV:= .v agg xs
def eP(xs:aX)(lo hi:aG):aX:=(xs.drop lo).take (hi-lo)
def plain(ks:az Ck):aY:=ks.all λ| .i _=>ak| .b=>ak| .s=>ak|_=>aq
def ckB:Ck->Ck->aY
 | .i a, .i b=>decide (a=b)| .b, .b=>ak| .s, .s=>ak| .l a, .l b=>bA a b| .o, .o=>ak|_,_=>aq
def pQ:az Ck->az Ck->aY
 |[],[]=>ak|x::l,y::r=>ckB x y&&pQ l r|_,_=>aq
def GY(ex:aY)(k:Ck)(a:AV):Rd (CV×az (aG×eu)):=
 match k,a with
 | .i k, .i k' n=>if k=k' then .ret (.i k n,[])else .fail
 | .b, .b x=> .ret (.b x,[])
 | .s, .s x=> .ret (.s x,[])
 | .l e, .nl=> .ret (.l e [],[])
 | .l e, .sh e' xs=>bif bA e e'&& !ex then .ret (.l e xs,[])else .fail
 | .l e, .own nm=>(jl nm).bind λ
  | .row e' s9 xs=>bif bA e e'&&s9 then(bif ex then .ret (.l e xs,[(cW nm, .o .dead)])else .fail)else .fail
  | .fE e' xs=>bif bA e e'&& !ex then .ret (.l e xs,[])else .fail
  |_=> .fail
 |_,_=> .fail
def xS(ex:aY):az Ck->az AV->Rd (az CV×az (aG×eu))
 |[],[]=> .ret ([],[])
 |k::ks,a::r=>(GY ex k a).bind λ(c,w)=>(xS ex ks r).bind λ(cs,ws)=> .ret (c::cs,w++ws)
 |_,_=> .fail
def aeL:az AV->aY
 |[]=>ak
 | .sh _ _::_=>aq
 |_::r=>aeL r
end Go.FG

namespace Go.FG
def aaX(op:BinOp)(k:mI)(a b:aA):aD (aY×AV):=
 match op with
 | .add=>aj (ak, .i k (k.wrap (a+b)))
 | .sub=>aj (ak, .i k (k.wrap (a-b)))
 | .mul=>aj (ak, .i k (k.wrap (a*b)))
 | .quo=>aj (!(b==0), .i k (k.wrap (a.tdiv b)))
 | .rem=>aj (!(b==0), .i k (a.tmod b))
 | .and=>aj (ak, .i k (k.wrap (b_ k.bits a&&&b_ k.bits b).toNat))
 | .or=>aj (ak, .i k (k.wrap (b_ k.bits a|||BitVec.ofInt k.bits b).toNat))
 | .xor=>aj (ak, .i k (k.wrap (b_ k.bits a^^^b_ k.bits b).toNat))
 | .eql=>aj (ak, .b (a==b))
 | .neq=>aj (ak, .b (a !=b))
 | .lss=>aj (ak, .b (decide (a<b)))
 | .leq=>aj (ak, .b (decide (a<=b)))
 | .gtr=>aj (ak, .b (decide (a>b)))
 | .geq=>aj (ak, .b (decide (a≥b)))
 |_=>ao
def aaZ(op:BinOp)(a b:au):aD (aY×AV):=
 match op with
 | .add=>aj (decide (a.size+b.size<=4611686018427387904), .s (a++b))
 | .eql=>aj (ak, .b (a.toList==b.toList))
 | .neq=>aj (ak, .b (!(a.toList==b.toList)))
 | .lss=>aj (ak, .b (cf a.toList b.toList))
 | .leq=>aj (ak, .b (cf a.toList b.toList||a.toList==b.toList))
 | .gtr=>aj (ak, .b (!(cf a.toList b.toList||a.toList==b.toList)))
 | .geq=>aj (ak, .b (!(cf a.toList b.toList)))
 |_=>ao
def UH:az AV->az AV->aD aY
 |[],[]=>aj ak
 | .i k a::l, .i k' b::r=>if k=k' then(match UH l r with|some t=>aj ((a==b)&&t)|none=>ao)else ao
 | .b a::l, .b b::r=>match UH l r with|some t=>aj ((a==b)&&t)|none=>ao
 | .s a::l, .s b::r=>match UH l r with|some t=>aj ((a.toList==b.toList)&&t)|none=>ao
 |_,_=>ao
def Fb:AV->Ck
 | .i k _=> .i k| .b _=> .b| .s _=> .s|_=> .o
def IX(op:BinOp)(k:Ck):AV->AV->aD (aY×AV)
 | .i k a, .i k' b=>if k=k' then aaX op k a b else ao
 | .s a, .s b=>aaZ op a b
 | .b a, .b b=>match op,k with| .eql, .b=>aj (ak, .b (a==b))| .neq, .b=>aj (ak, .b (!(a==b)))|_,_=>ao
 |_,_=>ao
def shV(op:BinOp):AV->AV->aD (aY×AV)
 | .i k a, .i _ b=>match op with
  | .shl=>aj (decide (0<=b), .i k (k.wrap (a*2^(min b.toNat k.bits))))
  | .shr=>aj (decide (0<=b), .i k (a.fdiv (2^(min b.toNat k.bits))))
  |_=>ao
 |_,_=>ao
def Nh:BinOp->aY| .shl=>ak| .shr=>ak|_=>aq
def isEq:BinOp->aY| .eql=>ak| .neq=>ak|_=>aq
def RQ{α:Type}:aD α->Rd α|some a=> .ret a|none=> .fail
def aaY(E:fB)(t:aG)(op:BinOp)(x y:SV):Rd (aY×AV):=
 match x,y with
 | .v aq [a], .v aq [b]=>bif Nh op then RQ (shV op a b)else(pA E t).bind λk=>RQ (IX op k a b)
 | .v ak xs, .v ak ys=>(rS E t).bind λti=>
   bif isEq op&&l_ t E.eqs&&pQ (xs.map Fb) ti.ks&&pQ (ys.map Fb) ti.ks&&plain ti.ks then RQ (match UH xs ys with|some r=>aj (ak,AV.b (match op with| .eql=>r|_=> !r))|none=>ao)else .fail
 |_,_=> .fail
def Lj:az AV->az (aG×az AV)->az AV
 |z,[]=>z
 |z,(j,ys)::r=>Lj (iF z j ys) r
def Fq(E:fB)(t:aG):az (aG×dn)->Rd (az (aG×az AV))
 |[]=> .ret []
 |(f,x)::r=>(Fp x).bind λ
  | .v _ ys=>match E.fo t f with
   |some (o,n)=>bif bA ys.length n then(Fq E t r).bind λl=> .ret ((o,ys)::l)else .fail
   |none=> .fail
  |_=> .fail
def lV(E:fB)(a:AV):Rd (aG×aX):=
 match a with
 | .sh e xs=> .ret (e,xs)
 | .own nm=>(jl nm).bind λ| .row e _ xs=> .ret (e,xs)| .fE e xs=> .ret (e,xs)|_=> .fail
 | .vw nm lo hi=>(jl nm).bind λ| .row e _ xs=> .ret (e,eP xs lo hi)| .fE e xs=> .ret (e,eP xs lo hi)|_=> .fail
 | .inn nm i j=>(jl nm).bind λ
  | .row e ak xs=>(rS E e).bind λti=>match ti.ks[j]? with|some (.l e2)=> .ret (e2,ju (aw xs i j))|_=> .fail
  |_=> .fail
 |_=> .fail
def abY(E:fB)(k:Ck)(a:AV):Rd aA:=
 match k,a with
 | .s, .s x=> .ret x.size
 | .l _, .nl=> .ret 0
 | .l _, .vw nm lo hi=>(jl nm).bind λ| .row _ _ _=> .ret ((hi-lo:aG):aA)| .fE _ _=> .ret ((hi-lo:aG):aA)|_=> .fail
 | .l _,a=>(lV E a).bind λ(_,xs)=> .ret xs.length
 |_,_=> .fail
def Jd(ex:aY)(ks:az Ck):az (aG×dn)->aX->Rd (aX×az (aG×eu))
 |[],z=> .ret (z,[])
 |(i,x)::r,z=>(Fp x).bind λ
  | .v _ ys=>bif e9 (i+1) z.length then(xS ex ks ys).bind λ(cs,w)=>(Jd ex ks r (z.set i cs)).bind λ(z,ws)=> .ret (z,w++ws)else .fail
  |_=> .fail
def Ld:az (aG×dn)->Rd aY
 |[]=> .ret ak
 |(_,x)::r=>(Fp x).bind λ
  | .v _ ys=>(Ld r).bind λb=> .ret (aeL ys&&b)
  |_=> .fail
def aT(ks:az Ck)(n:aG):aX:=List.replicate n (ks.map yF)
def bytesOf(xs:aX):au:=⟨(xs.map λy=>ax (bY (y.getD 0 (.b aq))).toNat).toArray⟩
def qp(s:au):aX:=s.data.toList.map λb=>[.i .u8 (b.toNat:aA)]
def u8s:az Ck->aY|[.i .u8]=>ak|_=>aq
def flat(E:fB)(ks:az Ck):aY:=ks.all λ
 | .l e=>match E.ty e with|some ti=>plain ti.ks|none=>aq
 |_=>ak
def cJ(n:aG)(bytes:aG):aY:=decide (n*bytes<=140737488355328)&&decide (n<=9223372036854775807)
def sD(E:fB)(ti:TI)(p:AV):Rd (az AV):=
 match p with
 | .bp nm j=>(jl nm).bind λ
  | .box xs=>bif e9 (j+ti.ks.length) xs.length then .ret ((xs.drop j).take ti.ks.length)else .fail
  | .nC xs=>bif e9 (j+ti.ks.length) xs.length then .ret (((xs.drop j).take ti.ks.length).map Wv)else .fail
  |_=> .fail
 | .fp xs j=>bif e9 (j+ti.ks.length) xs.length then .ret (((xs.drop j).take ti.ks.length).map Wv)else .fail
 | .sp e xs i j=>(rS E e).bind λte=>bif pQ ((te.ks.drop j).take ti.ks.length) ti.ks then .ret (tT xs i j ti.ks)else .fail
 | .rp nm i j=>(jl nm).bind λ
  | .row e ex xs=>(rS E e).bind λte=>bif pQ ((te.ks.drop j).take ti.ks.length) ti.ks then(bif ex&&xX nm then(bif plain ti.ks then .ret (tT xs i j ti.ks)else .fail)else .ret (bif ex then zq nm xs i j ti.ks else tT xs i j ti.ks))else .fail
  | .fE e xs=>(rS E e).bind λte=>bif pQ ((te.ks.drop j).take ti.ks.length) ti.ks then .ret (tT xs i j ti.ks)else .fail
  |_=> .fail
 | .ip nm i j i2 j2=>(jl nm).bind λ
  | .row e ak xs=>(rS E e).bind λte=>match te.ks[j]? with
   |some (.l e2)=>(rS E e2).bind λt2=>bif pQ ((t2.ks.drop j2).take ti.ks.length) ti.ks then .ret (tT (ju (aw xs i j)) i2 j2 ti.ks)else .fail
   |_=> .fail
  |_=> .fail
 |_=> .fail
def FF(E:fB)(p:AV)(ys:az AV):Rd (az (aG×eu)):=
 match p with
 | .bp nm j=>(jl nm).bind λ
  | .box xs=>bif e9 (j+ys.length) xs.length then .ret [(cW nm, .o (.box (iF xs j ys)))]else .fail
  |_=> .fail
 | .rp nm i j=>(jl nm).bind λ
  | .row e ex xs=>(rS E e).bind λte=>bif plain ((te.ks.drop j).take ys.length)then(xS aq ((te.ks.drop j).take ys.length) ys).bind λ(cs,_)=> .ret [(cW nm, .o (.row e ex (eh xs i j cs)))]else .fail
  |_=> .fail
 | .ip nm i j i2 j2=>(jl nm).bind λ
  | .row e ak xs=>(rS E e).bind λte=>match te.ks[j]? with
   |some (.l e2)=>(rS E e2).bind λt2=>bif plain t2.ks then(xS aq ((t2.ks.drop j2).take ys.length) ys).bind λ(cs,_)=>
    .ret [(cW nm, .o (.row e ak (eh xs i j [.l e2 (eh (ju (aw xs i j)) i2 j2 cs)])))]else .fail
   |_=> .fail
  |_=> .fail
 |_=> .fail
def HG:az AV->aY
 |[]=>ak
 | .own _::_=>aq
 |_::r=>HG r
def yq:aG->az AV->aD (aG×aG)
 |_,[]=>ao
 |q, .own n::r=>bif HG r then aj (q,n)else ao
 |q,_::r=>yq (q+1) r
def Cv(e2 n2:aG)(zs:aX):az Ck->az AV->aD (az CV)
 |[],[]=>aj []
 | .i k::ks, .i k' x::r=>if k=k' then(Cv e2 n2 zs ks r).map (.i k x:: ·)else ao
 | .b::ks, .b x::r=>(Cv e2 n2 zs ks r).map (.b x:: ·)
 | .s::ks, .s x::r=>(Cv e2 n2 zs ks r).map (.s x:: ·)
 | .l e::ks, .own n::r=>bif bA e e2&&bA n n2 then(Cv e2 n2 zs ks r).map (.l e2 zs:: ·)else ao
 |_,_=>ao
def FE(E:fB)(n i j:aG)(ys:az AV):Rd (az (aG×eu)):=
 (jl n).bind λ
 | .row e ak xs=>(rS E e).bind λte=>match yq 0 ys with
  |some (q,n2)=>bif bA n n2 then .fail else(jl n2).bind λ
   | .row e2 ak zs=>(rS E e2).bind λt2=>bif plain t2.ks&&e9 (j+ys.length) te.ks.length then(match Cv e2 n2 zs ((te.ks.drop j).take ys.length) ys with
    |some cs=> .ret [(cW n, .o (.row e ak (eh xs i j cs))),(cW n2, .o .dead)]
    |none=> .fail)else .fail
   |_=> .fail
  |none=> .fail
 |_=> .fail
def S9(E:fB)(p:AV)(ys:az AV):Rd (az (aG×eu)):=
 match p with
 | .rp n i j=>bif xX n then FE E n i j ys else FF E (.rp n i j) ys
 |p=>FF E p ys
def Qj(E:fB)(t:aG)(f:aG)(p:AV):Rd AV:=
 match E.fo t f with
 |none=> .fail
 |some (o,_)=>match p with
  | .bp nm j=> .ret (.bp nm (j+o))
  | .rp nm i j=> .ret (.rp nm i (j+o))
  | .sp e xs i j=> .ret (.sp e xs i (j+o))
  | .ip nm i j i2 j2=> .ret (.ip nm i j i2 (j2+o))
  | .fp xs j=> .ret (.fp xs (j+o))
  |_=> .fail
def QQ(E:fB)(e:aG)(x:AV)(n:aA):Rd (aY×AV):=
 match x with
 | .sh e' xs=>bif bA e e' then .ret (decide (0<=n)&&decide (n<(xs.length:aA)), .sp e' xs n.toNat 0)else .fail
 | .own nm=>(jl nm).bind λ
  | .row e' _ xs=>bif bA e e' then .ret (decide (0<=n)&&decide (n<(xs.length:aA)), .rp nm n.toNat 0)else .fail
  | .fE e' xs=>bif bA e e' then .ret (decide (0<=n)&&decide (n<(xs.length:aA)), .rp nm n.toNat 0)else .fail
  |_=> .fail
 | .vw nm lo hi=>(jl nm).bind λ
  | .row e' _ xs=>bif bA e e' then .ret (decide (0<=n)&&decide (n<((hi-lo:aG):aA)), .rp nm (lo+n.toNat) 0)else .fail
  | .fE e' xs=>bif bA e e' then .ret (decide (0<=n)&&decide (n<((hi-lo:aG):aA)), .rp nm (lo+n.toNat) 0)else .fail
  |_=> .fail
 | .inn nm i j=>(jl nm).bind λ
  | .row e1 ak xs=>(rS E e1).bind λte=>match te.ks[j]? with
   |some (.l e')=>bif bA e e' then .ret (decide (0<=n)&&decide (n<((ju (aw xs i j)).length:aA)), .ip nm i j n.toNat 0)else .fail
   |_=> .fail
  |_=> .fail
 |_=> .fail
def nE(x:aD dn)(d:aA):Rd aA:=
 match x with
 |none=> .ret d
 |some x=>(Bp x).bind λ(_,n)=> .ret n
def iO(l h n:aA):aY:=decide (0<=l)&&decide (l<=h)&&decide (h<=n)
def Sq(e:aG)(x:AV)(lo hi:aD dn):Rd (aY×AV):=
 match x with
 | .sh e' xs=>bif bA e e' then(nE lo 0).bind λl=>(nE hi xs.length).bind λh=> .ret (iO l h xs.length, .sh e' (eP xs l.toNat h.toNat))else .fail
 | .own nm=>(jl nm).bind λ
  | .row e' _ xs=>bif bA e e' then(nE lo 0).bind λl=>(nE hi xs.length).bind λh=> .ret (iO l h xs.length, .vw nm l.toNat h.toNat)else .fail
  | .fE e' xs=>bif bA e e' then(nE lo 0).bind λl=>(nE hi xs.length).bind λh=> .ret (iO l h xs.length, .vw nm l.toNat h.toNat)else .fail
  |_=> .fail
 | .vw nm a b=>(jl nm).bind λ
  | .row e' _ _=>bif bA e e' then(nE lo 0).bind λl=>(nE hi ((b-a:aG):aA)).bind λh=> .ret (iO l h ((b-a:aG):aA), .vw nm (a+l.toNat) (a+h.toNat))else .fail
  | .fE e' _=>bif bA e e' then(nE lo 0).bind λl=>(nE hi ((b-a:aG):aA)).bind λh=> .ret (iO l h ((b-a:aG):aA), .vw nm (a+l.toNat) (a+h.toNat))else .fail
  |_=> .fail
 | .nl=>(nE lo 0).bind λl=>(nE hi 0).bind λh=> .ret (iO l h 0, .nl)
 |_=> .fail
def J_(E:fB)(k:Ck)(x:AV)(lo hi:aD dn):Rd (aY×AV):=
 match k,x with
 | .s, .s a=>(nE lo 0).bind λl=>(nE hi a.size).bind λh=> .ret (iO l h a.size, .s (a.extract l.toNat h.toNat))
 | .l e,x=>(rS E e).bind λ_=>Sq e x lo hi
 |_,_=> .fail
def vG(e:aG)(s:AV):Rd (aY×aX×az aG):=
 match s with
 | .nl=> .ret (ak,[],[])
 | .own nm=>(jl nm).bind λ
  | .row e' ex xs=>bif bA e e' then .ret (ex,xs,[nm])else .fail
  |_=> .fail
 | .vw nm lo hi=>(jl nm).bind λ
  | .row e' ex xs=>bif bA e e' then .ret (ex,eP xs lo hi,[nm])else .fail
  |_=> .fail
 |_=> .fail
def Rh(E:fB)(sF e:aG)(ks:az Ck)(b:az aG)(x:AV):Rd (aY×aX×az (aG×eu)):=
 match x with
 | .s a=>bif u8s ks then .ret (ak,qp a,[])else .fail
 | .nl=> .ret (ak,[],[])
 | .sh e' xs=>bif bA e e' then .ret (plain ks,xs,[])else .fail
 | .own nm=>(jl nm).bind λ
  | .row e' ex xs=>bif bA e e' then
    (bif plain ks|| !ex then .ret (plain ks,xs,[])
    else bif l_ nm b then .fail
    else bif E.tk sF then .ret (aq,xs,[(cW nm, .o (.fE e xs))])else .ret (ak,xs,[(cW nm, .o .dead)]))else .fail
  | .fE e' xs=>bif bA e e' then .ret (plain ks,xs,[])else .fail
  |_=> .fail
 | .vw nm lo hi=>(jl nm).bind λ
  | .row e' ex xs=>bif bA e e' then
    (bif plain ks|| !ex then .ret (plain ks,eP xs lo hi,[])
    else bif l_ nm b then .fail
    else bif E.tk sF then .ret (aq,eP xs lo hi,[(cW nm, .o (.fE e xs))])else .fail)else .fail
  | .fE e' xs=>bif bA e e' then .ret (plain ks,eP xs lo hi,[])else .fail
  |_=> .fail
 | .inn nm i j=>bif plain ks then(lV E (.inn nm i j)).bind λ(e',xs)=>bif bA e e' then .ret (ak,xs,[])else .fail else .fail
 |_=> .fail
def nN(b:az aG):az (aG×eu):=b.map λn=>(cW n, .o .dead)
def EI(E:fB)(sF:aG)(t:aG)(s x:AV):Rd (aY×AV×az (aG×eu)):=
 (rS E t).bind λti=>match ti.agg,ti.ks with
 |false,[.l e]=>(rS E e).bind λte=>bif JO te.ks then(vG e s).bind λ(B7,xs,b)=>
  (Rh E sF e te.ks b x).bind λ(zr,ys,w2)=>(fresh sF).bind λ_=>
  .ret (cJ (xs.length+ys.length) te.bytes, .own sF,nN b++(w2++[(cW sF, .o (.row e (B7&&zr) (xs++ys)))]))else .fail
 |_,_=> .fail
def Tx(E:fB)(sF:aG)(t:aG)(s:AV)(n:aA):Rd (aY×AV×az (aG×eu)):=
 (rS E t).bind λti=>match ti.agg,ti.ks with
 |false,[.l e]=>(rS E e).bind λte=>bif JO te.ks&&flat E te.ks then(vG e s).bind λ(ex,xs,b)=>(fresh sF).bind λ_=>
  .ret (decide (0<=n)&&cJ (xs.length+n.toNat) te.bytes&&decide (n<=9223372036854775807), .own sF,nN b++[(cW sF, .o (.row e ex (xs++aT te.ks n.toNat)))])else .fail
 |_,_=> .fail
def Qc(E:fB)(e:aG)(x:AV):Rd (az (aG×eu)):=
 match x with
 | .own nm=>(jl nm).bind λ
  | .row e' ex xs=>(rS E e).bind λte=>bif bA e e'&&plain te.ks then .ret [(cW nm, .o (.row e' ex (aT te.ks xs.length)))]else .fail
  |_=> .fail
 | .vw nm lo hi=>(jl nm).bind λ
  | .row e' ex xs=>(rS E e).bind λte=>bif bA e e'&&plain te.ks then .ret [(cW nm, .o (.row e' ex (xs.take lo++aT te.ks (hi-lo)++xs.drop hi)))]else .fail
  |_=> .fail
 | .nl=> .ret []
 |_=> .fail
def k8(mx:aY)(a b:aA):aA:=bif mx then(if b>a then b else a)else(if b<a then b else a)
def v5(mx:aY):az dn->mI->aA->Rd AV
 |[],k,a=> .ret (.i k a)
 |x::r,k,a=>(Bp x).bind λ(_,b)=>v5 mx r k (k8 mx a b)
end Go.FG

namespace Go.FG
inductive Src where
 |own (nm e:aG) (ex:aY)|no
structure Pk where
 a:AA
 src:Src
 rd:az aG
def yZ(E:fB)(mt:aY)(a:AV):Rd Pk:=
 match a with
 | .i k n=> .ret ⟨.i k n, .no,[]⟩| .b x=> .ret ⟨.b x, .no,[]⟩| .s x=> .ret ⟨.s x, .no,[]⟩
 | .sh e xs=> .ret ⟨.sh e xs, .no,[]⟩
 | .nl=> .ret ⟨.nl, .no,[]⟩
 | .fn f iA=> .ret ⟨.fn f iA, .no,[]⟩
 | .own nm=>(jl nm).bind λ
  | .row e ex xs=>bif mt then .ret ⟨.ow e ex xs, .own nm e ex,[]⟩else .ret ⟨.sh e xs, .no,[nm]⟩
  | .fE e xs=> .ret ⟨.sh e xs, .no,[]⟩
  |_=> .fail
 | .vw nm lo hi=>bif mt then .fail else(jl nm).bind λ
  | .row e _ xs=> .ret ⟨.sh e (eP xs lo hi), .no,[nm]⟩
  | .fE e xs=> .ret ⟨.sh e (eP xs lo hi), .no,[]⟩
  |_=> .fail
 | .inn nm i j=>(jl nm).bind λ
  | .row e ak xs=>(rS E e).bind λte=>match te.ks[j]? with
   |some (.l e2)=>(rS E e2).bind λt2=>bif plain t2.ks&& !mt then .ret ⟨.sh e2 (ju (aw xs i j)), .no,[nm]⟩else .fail
   |_=> .fail
  |_=> .fail
 |_=> .fail
def Bz(E:fB)(mt:aY):az AV->Rd (az Pk)
 |[]=> .ret []
 |a::r=>(yZ E mt a).bind λp=>(Bz E mt r).bind λl=> .ret (p::l)
structure Pa where
 arg:eR
 box:aD (aG×az AV)
 cs:az Pk
def aaT(E:fB)(mt:aY)(x:SV):Rd Pa:=
 match x with
 | .v aq [.bp nm 0]=>bif mt then(jl nm).bind λ
   | .box xs=>(Bz E ak xs).bind λl=> .ret ⟨.pt (l.map (·.a)),aj (nm,xs),l⟩
   |_=> .fail
  else .fail
 | .v agg xs=>(Bz E mt xs).bind λl=> .ret ⟨.v agg (l.map (·.a)),ao,l⟩
 |_=> .fail
def Wr:Ck->AV->AV
 | .l e, .nl=> .sh e []
 |_,a=>a
def Bl:az Ck->az AV->az AV
 |k::ks,a::r=>Wr k a::Bl ks r
 |_,r=>r
def nlz(E:Tab)(t:aD aG)(v:SV):SV:=
 match t with
 |none=>v
 |some t=>match E.ty t,v with
  |some ti, .v g xs=> .v g (Bl ti.ks xs)
  |_,v=>v
def PZ(E:fB)(f:aG)(Oi:aD (az aG)):aG->az dn->Rd (az Pa)
 |_,[]=> .ret []
 |p,x::r=>(Fp x).bind λv=>(aaT E (E.mode f p) (bif E.mode f p then v else nlz E (match Oi with|some l=>l[p]? |none=>ao) v)).bind λa=>bif e9 a.cs.length 100 then(PZ E f Oi (p+1) r).bind λl=> .ret (a::l)else .fail
def Pk.th(p:Pk):az aG:=match p.src with| .own nm _ _=>[nm]| .no=>[]
def Pa.th(p:Pa):az aG:=(match p.box with|some (nm,_)=>[nm]|none=>[])++p.cs.flatMap (·.th)
def Pa.mX(p:Pa):az aG:=p.cs.flatMap (·.rd)
def sG:az aG->aY
 |[]=>ak|n::r=> !l_ n r&&sG r
def qP:az aG->az aG->aY
 |[],_=>ak|n::r,l=> !l_ n l&&qP r l
def qR(ok:aY)(nm:aG)(a:AA):Rd (AV×az (aG×eu)):=
 match a with
 | .i k n=> .ret (.i k n,[])| .b x=> .ret (.b x,[])| .s x=> .ret (.s x,[])| .nl=> .ret (.nl,[])
 | .sh e xs=>bif ok then .ret (.sh e xs,[])else .fail
 | .ow e ex xs=>bif ex||ok then(fresh nm).bind λ_=> .ret (.own nm,[(cW nm, .o (.row e ex xs))])else .fail
 |_=> .fail
def zI(ok:aY):aG->az AA->Rd (az AV×az (aG×eu))
 |_,[]=> .ret ([],[])
 |nm,a::r=>(qR ok nm a).bind λ(v,w)=>(zI ok (nm+1) r).bind λ(vs,ws)=> .ret (v::vs,w++ws)
def EL(ok:aY)(nm:aG)(a:eR):Rd ((aY×az AV)×az (aG×eu)):=
 match a with
 | .v agg xs=>(zI ok nm xs).bind λ(vs,ws)=> .ret ((agg,vs),ws)
 | .pt xs=>(zI ok nm xs).bind λ(vs,ws)=>(fresh (nm+30)).bind λ_=> .ret ((aq,[.bp (nm+30) 0]),ws++[(cW (nm+30), .o (.box vs))])
 | .fb _=> .fail
def AK(ok:aY):aG->az eR->Rd (az (aY×az AV)×az (aG×eu))
 |_,[]=> .ret ([],[])
 |nm,a::r=>(EL ok nm a).bind λ(v,w)=>(AK ok (nm+40) r).bind λ(vs,ws)=> .ret (v::vs,w++ws)
def DF(ok:aY)(p:Pk)(a:AA):Rd (az (aG×eu)):=
 match p.src,a with
 | .no,_=> .ret []
 | .own nm e ex, .kp xs=>bif ex||ok then .ret [(cW nm, .o (.row e ex xs))]else .fail
 | .own nm _ _, .nl=> .ret [(cW nm, .o .dead)]
 |_,_=> .fail
def JW(ok:aY):az Pk->az AA->Rd (az (aG×eu))
 |[],_=> .ret []
 |p::r,l=>(DF ok p (l.headD .nl)).bind λw=>(JW ok r l.tail).bind λws=> .ret (w++ws)
def Bt(ok:aY)(nm:aG)(p:Pk)(v:AV)(a:AA):Rd (AV×az (aG×eu)):=
 match p.src,a with
 | .own n e ex, .kp xs=>bif ex||ok then .ret (v,[(cW n, .o (.row e ex xs))])else .fail
 | .own n _ _,a=>(qR ok nm a).bind λ(v,w)=> .ret (v,(cW n, .o .dead)::w)
 | .no,a=>qR ok nm a
def q_(ok:aY):aG->az Pk->az AV->az AA->Rd (az AV×az (aG×eu))
 |_,[],[],[]=> .ret ([],[])
 |nm,p::ps,v::vs,a::as=>(Bt ok nm p v a).bind λ(v,w)=>(q_ ok (nm+1) ps vs as).bind λ(vs,ws)=> .ret (v::vs,w++ws)
 |_,_,_,_=> .fail
def RR(ok:aY)(nm:aG)(p:Pa)(l:az AA):Rd (az (aG×eu)):=
 match p.box with
 |some (n,vs)=>(q_ ok nm p.cs vs l).bind λ(vs,ws)=> .ret (ws++[(cW n, .o (.box vs))])
 |none=>JW ok p.cs l
def JV(ok:aY):aG->az Pa->az (az AA)->Rd (az (aG×eu))
 |_,[],_=> .ret []
 |nm,p::r,l=>(RR ok nm p (l.headD [])).bind λw=>(JV ok (nm+40) r l.tail).bind λws=> .ret (w++ws)
def rG:az (aY×az AV)->SV
 |[(agg,xs)]=> .v agg xs
 |l=> .jc l
def mM:eR->aG| .v _ xs=>xs.length| .pt xs=>xs.length| .fb _=>0
def Qs:az aG->Rd (az (aG×eu))
 |[]=> .ret []
 |n::r=>(jl n).bind λ
  | .row e _ xs=>(Qs r).bind λws=> .ret ((cW n, .o (.fE e xs))::ws)
  |_=> .fail
def EN(E:fB)(nm:aG)(o:eV)(f:aG)(args:az dn)(Oi:aD (az aG))(iA:az (az CV)):Rd rX:=
 (PZ E f Oi 0 args).bind λps=>
  bif sG (ps.flatMap (·.th))&&qP (ps.flatMap (·.th)) (ps.flatMap (·.mX))then
   match E.call f (ps.map (·.arg)++iA.map eR.fb)with
   |some (c,r)=>bif e9 ps.length 400&&(r.rs.all λa=>e9 (mM a) 30)&&(r.outs.all λa=>e9 a.length 100)then(Qs (bif E.tk nm then ps.flatMap (·.mX)else [])).bind λw0=>
    (JV (E.tk nm||(ps.flatMap (·.mX)).isEmpty) (nm+400) ps r.outs).bind λw1=>(AK (E.tk nm||(ps.flatMap (·.mX)).isEmpty) (nm+1) r.rs).bind λ(vs,w2)=>
    bif sG ((w1++w2).map (·.1))then .ret ⟨c,w0++(w1++w2)++dw o (rG vs)⟩else .fail else .fail
   |none=> .fail
  else .fail
def Rd.or{α:Type}:Rd α->Rd α->Rd α
 | .ret a,_=> .ret a
 | .fail,y=>y
 | .get k f,y=> .get k λc=>(f c).or y
def K7(E:fB)(nm:aG)(o:eV)(f:aG)(args:az dn)(Oi:az aG)(iA:az (az CV)):Rd rX:=
 (EN E nm o f args ao iA).or (EN E nm o f args (aj Oi) iA)
def Bc(E:fB)(o:eV)(f n i j:aG)(y:dn):Rd rX:=
 (Bp y).bind λ(k,m)=>(jl n).bind λ
  | .row e ak xs=>(rS E e).bind λte=>match te.ks[j]? with
   |some (.l e2)=>match E.call f [.v aq [.ow e2 ak (ju (aw xs i j))], .v aq [.i k m]]with
    |some (c,r)=>match r.rs,r.outs with
     |[.v aq [.i k2 m2]],[[.kp ys]]=> .ret ⟨c,(cW n, .o (.row e ak (eh xs i j [.l e2 ys])))::dw o (.v aq [.i k2 m2])⟩
     |_,_=> .fail
    |none=> .fail
   |_=> .fail
  |_=> .fail
def P9:az dn->Rd (az (az CV)×az (aG×eu))
 |[]=> .ret ([],[])
 |x::r=>(qY x).bind λ
  | .bp nm 0=>(jl nm).bind λ
   | .box xs=>(aa0 xs).bind λcs=>(P9 r).bind λ(l,ws)=> .ret (cs::l,(cW nm, .o (.nC cs))::ws)
   | .nC cs=>(P9 r).bind λ(l,ws)=> .ret (cs::l,ws)
   |_=> .fail
  |_=> .fail
where aa0:az AV->Rd (az CV)
 |[]=> .ret []
 |a::r=>(aa0 r).bind λl=>match a with
  | .i k n=> .ret (.i k n::l)| .b x=> .ret (.b x::l)| .s x=> .ret (.s x::l)
  | .sh e xs=> .ret (.l e xs::l)
  |_=> .fail
def lG(E:fB)(nm:aG)(o:eV):Rd rX:=
 match o.op with
 | .move x| .assign x=>(Fp x).bind λv=>val o v
 | .nilCheck x=>(qY x).bind λp=>match p with
  | .bp nm j=>val o (.v aq [.bp nm j])
  | .rp nm i j=>val o (.v aq [.rp nm i j])
  |_=> .fail
 | .pick c a b=>(qY c).bind λc=>(Fp a).bind λa=>(Fp b).bind λb=>
  match c,a,b with
  | .b c, .v aq [.b p], .v aq [.b q]=>yC o (.b (bif c then p else q))
  | .b c, .jc [],b=> .ret ⟨!c,dw o b⟩
  | .b c,a, .jc []=> .ret ⟨c,dw o a⟩
  |_,_,_=> .fail
 | .alloc t=>(rS E t).bind λti=>bif JO ti.ks then(fresh nm).bind λ_=> .ret ⟨ak,(cW nm, .o (.box (ti.ks.map BV)))::dw o (.v aq [.bp nm 0])⟩else .fail
 | .box t x=>(Fp x).bind λ
  | .v _ xs=>(fresh nm).bind λ_=> .ret ⟨ak,(cW nm, .o (.box xs))::dw o (.v aq [.bp nm 0])⟩
  |_=> .fail
 | .build t ps=>(rS E t).bind λti=>bif JO ti.ks&&ti.agg then(Fq E t ps.toList).bind λl=>val o (.v ak (Lj (ti.ks.map BV) l))else .fail
 | .buildSlice t n ps=>(rS E t).bind λti=>match ti.agg,ti.ks with
  |false,[.l e]=>(rS E e).bind λte=>bif JO te.ks then(Ld ps.toList).bind λex=>(Jd (ex&&flat E te.ks) te.ks ps.toList (aT te.ks n)).bind λ(xs,w)=>(fresh nm).bind λ_=>
   .ret ⟨e9 (n*te.ks.length) 16777216&&sG (w.map (·.1)),w++(cW nm, .o (.row e (ex&&flat E te.ks) xs))::dw o (.v aq [.own nm])⟩else .fail
  |_,_=> .fail
 | .load t p=>(rS E t).bind λti=>(qY p).bind λp=>(sD E ti p).bind λxs=>val o (.v ti.agg xs)
 | .store t p x=>(rS E t).bind λti=>(qY p).bind λp=>(Fp x).bind λ
  | .v _ ys=>bif bA ys.length ti.ks.length then(S9 E p ys).bind λw=> .ret ⟨ak,w++dw o .un⟩else .fail
  |_=> .fail
 | .fieldAddr t p f=>(qY p).bind λp=>(Qj E t f p).bind λq=>yC o q
 | .field t x f=>(Fp x).bind λ
  | .v ak xs=>match E.fo t f with
   |some (j,n)=>bif E.Qo t f&&bA n 1 then(match xs.drop j with|a::_=>yC o a|[]=> .fail)else .fail
   |none=> .fail
  |_=> .fail
 | .indexAddr t x i=>(pA E t).bind λ
  | .l e=>(qY x).bind λx=>(Bp i).bind λ(_,n)=>(QQ E e x n).bind λ(c,q)=>Kj o c q
  |_=> .fail
 | .index t x i=>(pA E t).bind λk=>(qY x).bind λx=>(Bp i).bind λ(_,n)=>match k,x with
  | .s, .s a=>Kj o (decide (0<=n)&&decide (n<(a.size:aA))) (.i .u8 ((a.data.getD n.toNat 0).toNat:aA))
  |_,_=> .fail
 | .binOp op t x y _=>(Fp x).bind λx=>(Fp y).bind λy=>(aaY E t op x y).bind λ(c,v)=>Kj o c v
 | .unOp op _ x=>(qY x).bind λx=>match op,x with
  | .not, .b x=>yC o (.b (!x))
  | .neg, .i k n=>yC o (.i k (k.wrap (0-n)))
  |_,_=> .fail
 | .convert src dst x=>(pA E src).bind λks=>(pA E dst).bind λkd=>(qY x).bind λx=>match kd,ks,x with
  | .i k, .i _, .i _ n=>yC o (.i k (k.wrap n))
  | .s, .s, .s a=>yC o (.s a)
  | .s, .l e', .nl=>(rS E e').bind λte=>bif u8s te.ks&& !te.agg then yC o (.s ⟨#[]⟩)else .fail
  | .s, .l e',a=>(lV E a).bind λ(e,xs)=>(rS E e).bind λte=>bif bA e e'&&u8s te.ks&& !te.agg then Kj o (decide (xs.length<=4611686018427387904)) (.s (bytesOf xs))else .fail
  |_,_,_=> .fail
 | .makeSlice t l c=>(Bp l).bind λ(_,n)=>(Bp c).bind λ(_,m)=>(rS E t).bind λti=>match ti.agg,ti.ks with
  |false,[.l e]=>(rS E e).bind λte=>bif JO te.ks&&flat E te.ks then(fresh (bif plain te.ks then nm else nm+999)).bind λ_=> .ret ⟨decide (0<=n)&&decide (n=m)&&cJ n.toNat te.bytes,(cW (bif plain te.ks then nm else nm+999), .o (.row e ak (aT te.ks n.toNat)))::dw o (.v aq [.own (bif plain te.ks then nm else nm+999)])⟩else .fail
  |_,_=> .fail
 | .slice t x lo hi mx=>match mx with
  |some _=> .fail
  |none=>(pA E t).bind λk=>(qY x).bind λx=>(J_ E k x lo hi).bind λ(c,v)=>Kj o c v
 | .extract x i=>(Fp x).bind λ
  | .jc l=>match l[i]? with|some (agg,xs)=>val o (.v agg xs)|none=> .fail
  |_=> .fail
 | .makeFunc (.func f) first iA=>bif first.isEmpty then(P9 iA.toList).bind λ(l,ws)=> .ret ⟨ak,ws++dw o (.v aq [.fn f l])⟩else .fail
 | .call c=>match c.callee with
  | .builtin .len=>match c.args.toList,c.argTypes.toList with
   |[x],[t]=>(pA E t).bind λk=>(qY x).bind λx=>(abY E k x).bind λn=>yC o (.i .i64 n)
   |_,_=> .fail
  | .builtin .cap=>match c.args.toList,c.argTypes.toList with
   |[x],[t]=>(pA E t).bind λ| .l _=>((qY x).bind λ| .nl=>yC o (.i .i64 0)|_=> .fail)|_=> .fail
   |_,_=> .fail
  | .builtin .min=>match c.args.toList with
   |x::r=>(Bp x).bind λ(k,n)=>(v5 aq r k n).bind λv=>yC o v
   |_=> .fail
  | .builtin .max=>match c.args.toList with
   |x::r=>(Bp x).bind λ(k,n)=>(v5 ak r k n).bind λv=>yC o v
   |_=> .fail
  | .builtin .clear=>match c.args.toList with
   |[x]=>match c.argTypes.toList with
    |[t]=>(pA E t).bind λ| .l e=>((qY x).bind λx=>(Qc E e x).bind λw=> .ret ⟨ak,w++dw o (.jc [])⟩)|_=> .fail
    |_=> .fail
   |_=> .fail
  | .builtin .append=>match c.args.toList,c.argTypes.toList with
   |[s,x],[t,u]=>(pA E u).bind λku=>(qY s).bind λs=>(qY x).bind λx=>match ku,x with
    | .i _, .i _ n=>(Tx E nm t s n).bind λ(b,v,w)=> .ret ⟨b,w++dw o (.v aq [v])⟩
    | .l _,x=>(EI E nm t s x).bind λ(b,v,w)=> .ret ⟨b,w++dw o (.v aq [v])⟩
    | .s,x=>(EI E nm t s x).bind λ(b,v,w)=> .ret ⟨b,w++dw o (.v aq [v])⟩
    |_,_=> .fail
   |_,_=> .fail
  | .value f=>(qY f).bind λ
   | .fn f iA=>match c.args.toList,iA with
    |[x,y],[]=>(Fp x).bind λ
     | .v aq [.inn n i j]=>bif E.mode f 0 then Bc E o f n i j y else K7 E nm o f c.args.toList c.argTypes.toList iA
     |_=>K7 E nm o f c.args.toList c.argTypes.toList iA
    |_,_=>K7 E nm o f c.args.toList c.argTypes.toList iA
   |_=> .fail
  |_=> .fail
 |_=> .fail
inductive Ex where
 |normal|exit (id:aG)|ret
structure Lg where
 rs:az aG
 ws:az aG
def Lp{R:Type}(a:AV)(f:AV->R):R:=
 match a with
 | .i k n=>f (.i k n)| .b x=>f (.b x)| .s x=>f (.s x)| .sh e xs=>f (.sh e xs)| .nl=>f .nl| .own n=>f (.own n)| .vw n lo hi=>f (.vw n lo hi)
 | .bp n j=>f (.bp n j)| .rp n i j=>f (.rp n i j)| .sp e xs i j=>f (.sp e xs i j)| .inn n i j=>f (.inn n i j)| .ip n i j i2 j2=>f (.ip n i j i2 j2)| .fn g iA=>f (.fn g iA)| .fp xs j=>f (.fp xs j)
def EU{R:Type}(a:aY)(f:aY->R):R:=match a with|true=>f ak|false=>f aq
def oM{R:Type}:az AV->(az AV->R)->R
 |[],f=>f []|a::r,f=>Lp a λa=>oM r λr=>f (a::r)
def EW{R:Type}:az (aY×az AV)->(az (aY×az AV)->R)->R
 |[],f=>f []|(g,xs)::r,f=>EU g λg=>oM xs λxs=>EW r λr=>f ((g,xs)::r)
def EV{R:Type}(v:SV)(f:SV->R):R:=
 match v with
 | .v g xs=>EU g λg=>oM xs λxs=>f (.v g xs)| .jc l=>EW l λl=>f (.jc l)| .un=>f .un
def Jo{R:Type}(o:Obj)(f:Obj->R):R:=
 match o with
 | .box xs=>oM xs λxs=>f (.box xs)| .nC cs=>f (.nC cs)| .row e ex xs=>EU ex λex=>f (.row e ex xs)| .fE e xs=>f (.fE e xs)| .dead=>f .dead
def Jn{R:Type}(c:eu)(f:eu->R):R:=
 match c with
 | .v x=>EV x λx=>f (.v x)| .o x=>Jo x λx=>f (.o x)| .jE=>f .jE
def A4{R:Type}:az (aG×eu)->(az (aG×eu)->R)->R
 |[],f=>f []|(k,c)::r,f=>Jn c λc=>A4 r λr=>f ((k,c)::r)
theorem Jm{R:Type}(a:AV)(f:AV->R):Lp a f=f a:=by cases a<;>rfl
theorem xU{R:Type}(a:aY)(f:aY->R):EU a f=f a:=by cases a<;>rfl
theorem nc{R:Type}:∀(l:az AV) (f:az AV->R),oM l f=f l
 |[],_=>rfl
 |a::r,f=>by simp only[oM,Jm,nc r]
theorem Dp{R:Type}:∀(l:az (aY×az AV)) (f:az (aY×az AV)->R),EW l f=f l
 |[],_=>rfl
 |(g,xs)::r,f=>by simp only[EW,xU,nc,Dp r]
theorem Jp{R:Type}(v:SV)(f:SV->R):EV v f=f v:=by cases v<;>simp only[EV,xU,nc,Dp]
theorem M0{R:Type}(v:Obj)(f:Obj->R):Jo v f=f v:=by cases v<;>simp only[Jo,xU,nc]
theorem MZ{R:Type}(v:eu)(f:eu->R):Jn v f=f v:=by cases v<;>simp only[Jn,Jp,M0]
theorem Dq{R:Type}:∀(l:az (aG×eu)) (f:az (aG×eu)->R),A4 l f=f l
 |[],_=>rfl
 |(k,c)::r,f=>by simp only[A4,MZ,Dq r]
def ops{R:Type}(E:fB)(all:de eV)(nG:aG):aG->az eV->St->az Lg->(St->az Lg->aD R)->aD R
 |_,[],σ,lg,K=>K σ lg
 |i,o::rest,σ,lg,K=>match o.guard with
  |none=>match (lG E ((nG+1)*1000000+i*1000) o).run σ []with
   |some (e,l)=>bif e.cond then A4 e.ws (λws=>ops E all nG (i+1) rest (wr σ ws) (⟨l,ws.map (·.1)⟩::lg) K)else ao
   |none=>ao
  |some (g,want)=>match (all.getD g default).dst with
   |none=>ao
   |some d=>match σ (pU d)with
    | .v (.v aq [.b x])=>
     let perform:=λy=>match (lG E ((nG+1)*1000000+i*1000) o).run (pf σ (pU d) (.v (.v aq [.b y]))) []with
      |some (e,l)=>bif e.cond then A4 e.ws (λws=>ops E all nG (i+1) rest (wr (pf σ (pU d) (.v (.v aq [.b y]))) ws) (⟨pU d::l,ws.map (·.1)⟩::lg) K)else ao
      |none=>ao
     let skip:=λy=>ops E all nG (i+1) rest (wr (pf σ (pU d) (.v (.v aq [.b y]))) (dw o (.jc []))) (⟨[pU d],(dw o (.jc [])).map (·.1)⟩::lg) K
     bif x then(bif want then perform ak else skip ak)else(bif want then skip aq else perform aq)
    | .v (.jc [])=>ops E all nG (i+1) rest (wr σ (dw o (.jc []))) (⟨[pU d],(dw o (.jc [])).map (·.1)⟩::lg) K
    |_=>ao
def ddA(acc:az aG):az aG->az aG
 |[]=>acc|n::r=>bif l_ n acc then ddA acc r else ddA (n::acc) r
def mo{R:Type}:az aG->(az aG->R)->R
 |[],f=>f []|n::r,f=>mo r λr=>f (n::r)
def zS{R:Type}:az (az aG)->(az (az aG)->R)->R
 |[],f=>f []|n::r,f=>mo n λn=>zS r λr=>f (n::r)
theorem oq{R:Type}:∀(l:az aG) (f:az aG->R),mo l f=f l
 |[],_=>rfl
 |n::r,f=>by simp only[mo,oq r]
theorem A3{R:Type}:∀(l:az (az aG)) (f:az (az aG)->R),zS l f=f l
 |[],_=>rfl
 |n::r,f=>by simp only[zS,oq,A3 r]
theorem EO:∀(l acc:az aG) (x:aG),x∈ddA acc l->x∈acc\/x∈l
 |[],_,_,h=> .inl h
 |n::r,acc,x,h=>by
  unfold ddA at h;cases hb:l_ n acc with
  |true=>
   rw[hb]at h;rcases EO r acc x h with h|h
   ·exact .inl h
   ·exact .inr (cU _ h)
  |false=>
   rw[hb]at h;rcases EO r (n::acc) x h with h|h
   ·rcases cz.1 h with rfl|h
    ·exact .inr du
    ·exact .inl h
   ·exact .inr (cU _ h)
def EH:az (az aG)->az eV->az (az aG)
 |acc,[]=>acc
 |acc,o::r=>mo (ddA [] (o.after.toList.flatMap λe=>bif mg .any e then e.on::acc.getD e.on []else [])) λx=>EH (acc++[x]) r
def HL:aG->az eV->aY
 |_,[]=>ak
 |i,o::r=>(o.after.toList.all λe=> !Region.binds .any e||Nat.blt e.on i)&&HL (i+1) r
def AQ(a b:Lg):aY:= !(qP a.ws b.ws&&qP a.ws b.rs&&qP b.ws a.rs)
def zL(an:az aG)(j:aG)(a:Lg):aG->az Lg->aY
 |_,[]=>ak
 |i,b::r=>(l_ i an|| !AQ a b)&&zL an j a (i+1) r
def calm:aG->az (az aG)->az Lg->az Lg->aY
 |_,_,_,[]=>ak
 |j,an,done,a::r=>zL (an.getD j []) j a 0 done&&calm (j+1) an (done++[a]) r
def zR{R:Type}:az Lg->(az Lg->R)->R
 |[],f=>f []|a::r,f=>mo a.rs λrs=>mo a.ws λws=>zR r λr=>f (⟨rs,ws⟩::r)
theorem A1{R:Type}:∀(l:az Lg) (f:az Lg->R),zR l f=f l
 |[],_=>rfl
 |n::r,f=>by simp only[zR,oq,A1 r]
def K8(an:az (az aG))(l:az Lg):aY:=zS an λan=>zR l λl=>calm 0 an [] l
theorem P8(an:az (az aG))(l:az Lg):K8 an l=calm 0 an [] l:=by simp only[K8,A3,A1]
def bI:AV->az aG
 | .own n=>[n]| .vw n _ _=>[n]| .bp n _=>[n]| .rp n _ _=>[n]| .inn n _ _=>[n]| .ip n _ _ _ _=>[n]|_=>[]
def cD:SV->az aG
 | .v _ xs=>xs.flatMap bI| .jc l=>l.flatMap λ(_,xs)=>xs.flatMap bI| .un=>[]
def Un:az aG->az aG->az aG
 |l,[]=>l
 |l,n::r=>mo (bif l_ n l then l else l++[n]) λl=>Un l r
def slot(σ:St)(n:aG):SV:=match σ (pU n)with| .v x=>x|_=> .un
def afX(σ:St)(nm:aG):az aG:=match σ (cW nm)with| .o (.box xs)=>xs.flatMap bI|_=>[]
def idx(n:aG):aG->az aG->aD aG
 |_,[]=>ao|i,m::r=>bif bA n m then aj i else idx n (i+1) r
def enc(f:aY)(k:aG):aG:=bif f then k*1000+999 else k
def u_(l:az aG)(n:aG):aD aG:=bif e9 900000000 n then(bif l_ n l then aj n else ao)else(match idx n 0 l with|some k=>aj (enc (xX n) k)|none=>ao)
def pC(l:az aG)(a:AV):AV:=
 match a with
 | .own n=>match u_ l n with|some k=> .own k|none=> .nl
 | .vw n lo hi=>match u_ l n with|some k=> .vw k lo hi|none=> .nl
 | .bp n j=>match u_ l n with|some k=> .bp k j|none=> .nl
 | .rp n i j=>match u_ l n with|some k=> .rp k i j|none=> .nl
 | .inn n i j=>match u_ l n with|some k=> .inn k i j|none=> .nl
 | .ip n i j i2 j2=>match u_ l n with|some k=> .ip k i j i2 j2|none=> .nl
 |a=>a
def xZ(l:az aG)(ns:az aG):aY:=ns.all λn=>l_ n l
def DH(l:az aG)(v:SV):SV:=
 bif xZ l (cD v)then(match v with
 | .v agg xs=> .v agg (xs.map (pC l))| .jc r=> .jc (r.map λ(g,xs)=>(g,xs.map (pC l)))| .un=> .un)else .un
def NH(l:az aG)(o:eu):eu:=
 match o with
 | .o (.box xs)=>bif xZ l (xs.flatMap bI)then .o (.box (xs.map (pC l)))else .o .dead
 | .o x=> .o x
 |_=> .o .dead
def fK:az (aG×eu)->St
 |[],_=> .jE
 |(k,c)::r,n=>bif bA n k then c else fK r n
def uZ(σ:St)(l:az aG):az aG->az (aG×eu)
 |[]=>[]|n::r=>match u_ l n with|some k=>(cW k,NH l (σ (cW n)))::uZ σ l r|none=>uZ σ l r
def I7(keep:az aG)(σ:St):az aG:=
 mo (Un [] (keep.flatMap λn=>cD (slot σ n))) λl0=>mo (Un l0 (l0.flatMap (afX σ))) λl1=>Un l1 (l1.flatMap (afX σ))
def I6(keep:az aG)(σ:St)(l:az aG):az (aG×eu):=
 bif e9 l.length 900 then keep.map (λn=>(pU n, .v (DH l (slot σ n))))++uZ σ l l else []
def Vi(x:aG):aY:=e9 1000000000000000 x
def YO(x:aG):aG:=(x/1000000)%1000000000
def Q2(x:aG):aG:=(x/1000)%1000
def kTy(x:aG):aG:=x%1000
def kNm(x:aG):aG:=800000000+((x/1000)%1000000)*100
def yY{α:Type}(x:aG)(σ:St)(f:St->α):α:=
 match slot σ (YO x)with
 | .v aq [.bp nm 0]=>match σ (cW nm),σ (cW (kNm x))with
  | .o (.box xs), .jE=>match xs[Q2 x]? with
   |some .nl=>oM (xs.set (Q2 x) (.own (kNm x))) λys=>f (pf (pf σ (cW nm) (.o (.box ys))) (cW (kNm x)) (.o (.row (kTy x) ak [])))
   |_=>f σ
  |_,_=>f σ
 |_=>f σ
def LM{α:Type}:az aG->St->(St->α)->α
 |[],σ,f=>f σ
 |x::r,σ,f=>bif Vi x then yY x σ (λσ=>LM r σ f)else LM r σ f
def I8(keep:az aG)(σ:St):az (aG×eu):=LM keep σ λσ=>mo (keep.filter λx=> !Vi x) λkeep=>mo (I7 keep σ) λl=>I6 keep σ l
def canon(keep:az aG)(σ:St):St:=fK (I8 keep σ)
def fB.yW(E:fB)(n:aG):az aG:=(E.keep n).filter λx=>bif Vi x then(match E.ty (kTy x)with|some _=>ak|none=>aq)else ak
def gi:Code->aG
 | .region id _ _=>id| .seq a _=>gi a| .block _ c=>gi c| .scope c=>gi c|_=>0
def Dy{R:Type}(g:St->aD R)(cn:St->St)(K:Ex->St->aD R):Ex->St->aD R
 | .normal,σ=>g (cn σ)
 |e,σ=>K e (cn σ)
def iter{R:Type}(f:St->(Ex->St->aD R)->aD R)(cn:St->St):aG->St->(Ex->St->aD R)->aD R
 |0,_,_=>ao
 |n+1,σ,K=>f σ (Dy (λs=>iter f cn n s K) cn K)
theorem Ni{R:Type}(f:St->(Ex->St->aD R)->aD R)(cn:St->St)(n:aG)(σ:St)(K:Ex->St->aD R):iter f cn (n+1) σ K=f σ (Dy (λs=>iter f cn n s K) cn K):=rfl
abbrev It(R:Type):=aG->(St->(Ex->St->aD R)->aD R)->(St->St)->az (aG×eu)->(Ex->St->aD R)->aD R
def aq0{R:Type}(n:aG):It R:=λ_ f cn L K=>iter f cn n (fK L) K
def apQ{R:Type}(f:St->(Ex->St->aD R)->aD R)(K:Ex->St->aD R):Ex->St->aD R
 | .normal,σ=>f σ K
 |e,σ=>K e σ
def al_{R:Type}(id:aG)(K:Ex->St->aD R):Ex->St->aD R
 | .exit j,σ=>bif bA j id then K .normal σ else K (.exit j) σ
 |e,σ=>K e σ
def sq{R:Type}(E:fB)(it:It R):Code->St->(Ex->St->aD R)->aD R
 | .skip,σ,K=>K .normal σ
 | .region id os draw,σ,K=>ops E os id 0 os.toList σ [] λσ lg=>bif !draw||(HL 0 os.toList&&K8 (EH [] os.toList) lg.reverse)then K .normal σ else ao
 | .seq a b,σ,K=>sq E it a σ (apQ (sq E it b) K)
 | .cond c a b,σ,K=>match c with
  | .tmp t=>match σ (pU t)with
   | .v (.v aq [.b x])=>bif x then(sq E it a (pf σ (pU t) (.v (.v aq [.b ak]))) K)else(sq E it b (pf σ (pU t) (.v (.v aq [.b aq]))) K)
   |_=>ao
  |_=>ao
 | .block id c,σ,K=>sq E it c σ (al_ id K)
 | .loop c,σ,K=>it (gi c) (sq E it c) (canon (E.yW (gi c))) (I8 (E.yW (gi c)) σ) K
 | .exit id,σ,K=>K (.exit id) σ
 | .ret,σ,K=>K .ret σ
 |_,_,_=>ao
def jA:Code->az Code
 | .seq a b=>jA a++jA b
 | .cond _ a b=>jA a++jA b
 | .block _ c=>jA c
 | .loop c=>c::jA c
 |_=>[]
def Be(nG:aG):Code->aD Code
 | .seq a b=>match Be nG a with|some r=>aj r|none=>Be nG b
 | .cond _ a b=>match Be nG a with|some r=>aj r|none=>Be nG b
 | .block _ c=>Be nG c
 | .loop c=>bif bA (gi c) nG then aj c else Be nG c
 |_=>ao
def ca(F:Func)(nG:aG):Code:=((F.body.bind (Be nG)).getD .skip)
end Go.FG

namespace Go.FG
def dL(p j:aG):aG:=900000000+p*1000+j
def kQ(nm:aG)(a:AA):AV:=
 match a with
 | .i k n=> .i k n| .b x=> .b x| .s x=> .s x| .sh e xs=> .sh e xs| .nl=> .nl
 | .ow _ _ _=> .own nm| .kp _=> .nl| .fn f iA=> .fn f iA
def Dw(nm:aG)(a:AA):az (aG×eu):=match a with| .ow e ex xs=>[(cW nm, .o (.row e ex xs))]|_=>[]
def gb(nm:aG):az AA->az AV
 |[]=>[]|a::r=>kQ nm a::gb (nm+1) r
def sB(nm:aG):az AA->az (aG×eu)
 |[]=>[]|a::r=>Dw nm a++sB (nm+1) r
def sC(p:aG)(a:eR):SV:=
 match a with
 | .v agg xs=> .v agg (gb (dL p 0) xs)
 | .pt _=> .v aq [.bp (dL p 900) 0]
 | .fb xs=> .v aq [.fp xs 0]
def uh(p:aG)(a:eR):az (aG×eu):=
 match a with
 | .v _ xs=>sB (dL p 0) xs
 | .pt xs=>(cW (dL p 900), .o (.box (gb (dL p 0) xs)))::sB (dL p 0) xs
 | .fb _=>[]
def JE:aG->az eR->az (aG×eu)
 |_,[]=>[]|p,a::r=>(pU p, .v (sC p a))::uh p a++JE (p+1) r
def inj(args:az eR):St:=fK (JE 0 args)
def yU(E:fB)(e:aG):aY:=match E.ty e with|some _=>ak|none=>aq
def yT(E:fB)(om:Om)(σ:St)(k:Ck)(a:AV):aD (AA×az aG×az aG):=
 match a with
 | .i k n=>aj (.i k n,[],[])| .b x=>aj (.b x,[],[])| .s x=>aj (.s x,[],[])
 | .sh e xs=>match om with| .own _=>ao|_=>aj (.sh e xs,[],[])
 | .nl=>match om with
  | .own e=>bif yU E e then aj (.ow e ak [],[],[])else ao
  | .sh e=>aj (.sh e [],[],[])
  | .nat=>match k with| .l e=>bif yU E e then aj (.ow e ak [],[],[])else ao|_=>aj (.nl,[],[])
 | .own nm=>match σ (cW nm)with
  | .o (.row e ex xs)=>match om with| .sh _=>aj (.sh e xs,[],[nm])|_=>aj (.ow e ex xs,[nm],[])
  | .o (.fE e xs)=>match om with| .own _=>ao|_=>aj (.sh e xs,[],[])
  |_=>ao
 | .vw nm lo hi=>match σ (cW nm)with
  | .o (.row e ex xs)=>match om with| .sh _=>aj (.sh e (eP xs lo hi),[],[nm])|_=>aj (.ow e ex (eP xs lo hi),[nm],[])
  | .o (.fE e xs)=>match om with| .own _=>ao|_=>aj (.sh e (eP xs lo hi),[],[])
  |_=>ao
 |_=>ao
def sr(E:fB)(q:aG)(σ:St):aG->az Ck->az AV->aD (az AA×az aG×az aG)
 |_,_,[]=>aj ([],[],[])
 |j,ks,a::r=>match yT E (E.om q j) σ (ks.headD .o) a,sr E q σ (j+1) ks.tail r with
  |some (x,l,m),aj (xs,ls,ms)=>aj (x::xs,l++ls,m++ms)
  |_,_=>ao
def Ll(E:fB)(q:aG)(σ:St)(ks:az Ck)(v:SV):aD (eR×az aG×az aG):=
 match v with
 | .v aq [.bp nm 0]=>match σ (cW nm)with
  | .o (.box xs)=>match sr E q σ 0 [] xs with|some (l,ns,ms)=>aj (.pt l,nm::ns,ms)|none=>ao
  |_=>ao
 | .v agg xs=>match sr E q σ 0 ks xs with|some (l,ns,ms)=>aj (.v agg l,ns,ms)|none=>ao
 |_=>ao
def Sa(E:fB)(q:aG)(σ:St)(r:ResultVar)(t:aG):aD (eR×az aG×az aG):=
 match E.ty t with
 |none=>ao
 |some ti=>match r with
  | .tmp s=>Ll E q σ ti.ks (slot σ s)
  | .cell a t'=>match E.ty t',slot σ a with
   |some Td, .v aq [.bp nm 0]=>match σ (cW nm)with| .o (.box xs)=>bif bA xs.length Td.ks.length then Ll E q σ ti.ks (.v Td.agg xs)else ao|_=>ao
   |_,_=>ao
def BC(E:fB)(σ:St):aG->az ResultVar->az aG->aD (az eR×az aG×az aG)
 |_,[],_=>aj ([],[],[])
 |q,r::rs,ts=>match Sa E q σ r (ts.headD 0),BC E σ (q+1) rs ts.tail with
  |some (a,l,m),aj (as,ls,ms)=>aj (a::as,l++ls,m++ms)
  |_,_=>ao
def HZ(a b:aY):aY:=bif a then b else !b
def mO(σ:St)(tk:az aG)(nm:aG)(a:AA):AA×az aG:=
 match a with
 | .ow e ex _=>bif l_ nm tk then(.nl,[])else(match σ (cW nm)with| .o (.row e' s9 xs)=>bif bA e e'&&HZ ex s9 then(.kp xs,[nm])else(.nl,[])|_=>(.nl,[]))
 |_=>(.nl,[])
def pz(σ:St)(tk:az aG)(nm:aG):az AA->az AA×az aG
 |[]=>([],[])|a::r=>((mO σ tk nm a).1::(pz σ tk (nm+1) r).1,(mO σ tk nm a).2++(pz σ tk (nm+1) r).2)
def XT(E:fB)(om:Om)(σ:St)(nm:aG)(b:AA)(a:AV):aD (AA×az aG×az aG):=
 match om,b,a with
 | .nat, .ow e ex _, .own n=>bif bA n nm then(match σ (cW n)with| .o (.row e' s9 xs)=>bif bA e e'&&HZ ex s9 then aj (.kp xs,[n],[])else ao|_=>ao)else yT E om σ .o a
 |_,_,a=>yT E om σ .o a
def EM(E:fB)(q:aG)(σ:St):aG->az AA->az AV->aD (az AA×az aG×az aG)
 |_,_,[]=>aj ([],[],[])
 |j,bs,a::r=>match XT E (E.om q j) σ (dL q j) (bs.headD .nl) a,EM E q σ (j+1) bs.tail r with
  |some (x,l,m),aj (xs,ls,ms)=>aj (x::xs,l++ls,m++ms)
  |_,_=>ao
def Qv:az AA->aY
 |[]=>aq| .ow _ _ _::_=>ak|_::r=>Qv r
def Bv(E:fB)(σ:St)(tk:az aG):aG->az eR->aD (az (az AA)×az aG×az aG)
 |_,[]=>aj ([],[],[])
 |p,a::r=>match Bv E σ tk (p+1) r with
  |none=>ao
  |some (l,ns,ms)=>match a with
   | .v _ xs=>bif Qv xs then aj ((pz σ tk (dL p 0) xs).1::l,(pz σ tk (dL p 0) xs).2++ns,ms)else aj ([]::l,ns,ms)
   | .pt xs=>match σ (cW (dL p 900))with
    | .o (.box vs)=>match EM E p σ 0 xs vs with|some (as,ns',ms')=>aj (as::l,dL p 900::(ns'++ns),ms'++ms)|none=>ao
    |_=>ao
   | .fb _=>aj ([]::l,ns,ms)
def s8:az (az AA)->az (az AA)
 |[]=>[]
 |x::r=>match x,s8 r with|[],[]=>[]|x,r=>x::r
def fin(E:fB)(F:Func)(args:az eR)(e:Ex)(σ:St):aD dM:=
 match e with
 | .exit _=>ao
 |_=>match BC E σ 500 F.results.toList F.resultTypes.toList with
  |some (rs,tk,fz)=>match Bv E σ (tk++fz) 0 args with
   |some (outs,ns,ms)=>bif sG (tk++ns)&&qP (tk++ns) (fz++ms)&&e9 args.length 500&&(args.all λa=>e9 (mM a) 100)&&(rs.all λa=>e9 (mM a) 100)&&(outs.all λa=>e9 a.length 100)then aj ⟨rs,s8 outs⟩else ao
   |none=>ao
  |none=>ao
def body(E:fB)(it:It dM)(F:Func)(args:az eR):aD dM:=
 match F.body with
 |some c=>sq E it c (inj args) (fin E F args)
 |none=>ao
end Go.FG

namespace Go.FG
structure Pl where
 nil:aY
 blk:aG
 off:aG
 cap:aG
 n:aG
 sz:aG
def lj(p:Pl):bg:=if p.nil=ak then .slice ao 0 0 else .slice (aj ⟨p.blk,p.off,ao⟩) p.n p.cap
def nr(w:bF)(b:aG)(vals:de bg):Prop:=
 ∃t fr,w.heap[b]? =aj (.cells vals t fr)/\∀o,o<=vals.size->(decide (fr.1<=o)&&decide (o<fr.2))=aq
def NR:CV->bg
 | .i k n=> .int k n| .b x=> .bool x| .s x=> .string x| .l _ _=> .nilIface
def Gc(x:au):Prop:=x.size<=4611686018427387904
def okC:CV->Prop
 | .s x=>Gc x|_=>True
def Sc(u:bg)(x:CV):Prop:=u=NR x/\okC x
structure eK where
 P:aG->Pl
 G:aG->aG->aG->Pl
 K:aG->Prop
abbrev ad(b o:aG):Addr:=⟨b,o,ao⟩
inductive cY (E:Tab) (w:bF) (K:aG->Prop):bg->CV->Prop
 |i (k n):cY E w K (.int k n) (.i k n)
 |b (x):cY E w K (.bool x) (.b x)
 |s (x) (h:Gc x):cY E w K (.string x) (.s x)
 |nl (e A c):cY E w K (.slice A 0 c) (.l e [])
 |l (e xs b o c ti) (U:aG->aG->bg) (ht:E.ty e=aj ti) (hc:xs.length<=c) (hm:c<=maxLen) (hK:K b) (hs:∀y∈xs,y.map CV.kd=ti.ks)
  (hcell:∀i j y x,xs[i]? =aj y->y[j]? =aj x->w.cell? (ad b (o+i*ti.ks.length+j))=aj (U i j))
  (gO:∀i j y x,xs[i]? =aj y->y[j]? =aj x->cY E w K (U i j) x):cY E w K (.slice (aj (ad b o)) xs.length c) (.l e xs)
theorem nr.cell{w:bF}{b:aG}{vals:de bg}(h:nr w b vals)(o:aG):w.cell? (ad b o)=vals[o]? :=by obtain⟨t,fr,h,_⟩:=h;simp[World.cell?,h]
theorem nr.lt{w:bF}{b:aG}{vals:de bg}(h:nr w b vals):b<w.heap.size:=by obtain⟨t,fr,h,_⟩:=h;exact(dN.1 h).1
theorem nr.free{w:bF}{b:aG}{vals:de bg}(h:nr w b vals){o:aG}(ho:o<vals.size):w.frozen? (ad b o)=false:=by obtain⟨t,fr,h,hf⟩:=h;have:=hf o (Nat.le_of_lt ho);simpa [Xo,h]using this
theorem nr.frame{w w':bF}{b:aG}{vals:de bg}(h:nr w b vals)(e:w'.heap[b]? =w.heap[b]?):nr w' b vals:=by obtain⟨t,fr,h,hf⟩:=h;exact⟨t,fr,e.trans h,hf⟩
theorem cY.frame{E:Tab}{w w':bF}{K K':aG->Prop}{v:bg}{x:CV}(h:cY E w K v x)(hw:∀b,K b->w'.heap[b]? =w.heap[b]?)(hK:∀b,K b->K' b):cY E w' K' v x:=by
 induction h with
 |i=>exact .i _ _
 |b=>exact .b _
 |s x h=>exact .s _ h
 |nl=>exact .nl _ _ _
 |l e xs b o c ti U ht hc hm hKb hs hcell gO ih=>exact .l e xs b o c ti U ht hc hm (hK b hKb) hs (λi j y x h1 h2=>(tH (a:=ad b _) (hw b hKb)).trans (hcell i j y x h1 h2)) (λi j y x h1 h2=>ih i j y x h1 h2)
structure iT (w:bF) (p:Pl) (xs:aX) (R:aG->aG->bg->CV->Prop):Prop where
 n:p.n=xs.length
 nil:p.nil=ak->xs=[]/\p.cap=0
 mem:p.nil=aq->∃vals,nr w p.blk vals/\p.n<=p.cap/\p.cap<=maxLen/\p.off+p.cap*p.sz<=vals.size/\
  ∀(i:aG) (y:az CV) (j:aG) (x:CV),xs[i]? =aj y->y[j]? =aj x->∃u:bg,vals[p.off+i*p.sz+j]? =aj u/\R i j u x
def XC(E:Tab)(w:bF)(G:aG->aG->Pl)(i j:aG)(u:bg):CV->Prop
 | .l e ys=>u=lj (G i j)/\∃ti,E.ty e=aj ti/\plain ti.ks=ak/\(G i j).sz=ti.ks.length/\(∀y∈ys,y.map CV.kd=ti.ks)/\iT w (G i j) ys (λ_ _ u x=>Sc u x)
 |x=>Sc u x
def tc:CV->aY| .l _ _=>ak|_=>aq
def fV(xs:aX)(i j:aG):Prop:=∃y x,xs[i]? =aj y/\y[j]? =aj x/\tc x=ak
structure D3 (p:Pl) (G:aG->aG->Pl) (xs:aX):Prop where
 out:∀i j,fV xs i j->(G i j).nil=aq->p.nil=aq->(G i j).blk≠p.blk
 one:∀i j i' j',fV xs i j->fV xs i' j'->(G i j).nil=aq->(G i' j').nil=aq->(G i j).blk=(G i' j').blk->i=i'/\j=j'
structure KK (E:Tab) (w:bF) (c:eK) (nm e:aG) (ex:aY) (xs:aX):Prop where
 sh:∃ti,E.ty e=aj ti/\(c.P nm).sz=ti.ks.length/\∀y∈xs,y.map CV.kd=ti.ks
 at_:iT w (c.P nm) xs (λi j u x=>if ex=ak then XC E w (c.G nm) i j u x else cY E w c.K u x)
 inn:ex=ak->D3 (c.P nm) (c.G nm) xs
def FB(E:Tab)(w:bF)(K:aG->Prop)(b:aG)(cs:az CV):Prop:=
 K b/\∀(q:aG) (x:CV),cs[q]? =aj x->∃u:bg,w.cell? (ad b q)=aj u/\cY E w K u x
def vF(p:Pl)(lo hi:aG)(v:bg):Prop:=
 lo<=hi/\hi<=p.n/\(p.nil=ak->v= .slice ao 0 0)/\
 (p.nil=aq->(lo<p.cap/\v= .slice (aj (ad p.blk (p.off+lo*p.sz))) (hi-lo) (p.cap-lo))\/(lo=p.cap/\∃o,o<=p.off+p.cap*p.sz/\v= .slice (aj (ad p.blk o)) 0 0))
def ea(E:Tab)(w:bF)(c:eK):AV->bg->Prop
 | .i k n,v=>v= .int k n
 | .b x,v=>v= .bool x
 | .s x,v=>v= .string x/\Gc x
 | .sh e xs,v=>cY E w c.K v (.l e xs)
 | .nl,v=>v= .slice ao 0 0
 | .own nm,v=>v=lj (c.P nm)
 | .vw nm lo hi,v=>vF (c.P nm) lo hi v
 | .bp nm j,v=>v= .pointer (aj (ad (c.P nm).blk j))
 | .rp nm i j,v=>i<(c.P nm).n/\v= .pointer (aj (ad (c.P nm).blk ((c.P nm).off+i*(c.P nm).sz+j)))
 | .sp e xs i j,v=>∃b o cp ti,cY E w c.K (.slice (aj (ad b o)) xs.length cp) (.l e xs)/\i<xs.length/\E.ty e=aj ti/\v= .pointer (aj (ad b (o+i*ti.ks.length+j)))
 | .inn nm i j,v=>(i<(c.P nm).n/\v=lj (c.G nm i j))/\xX nm=aq
 | .ip nm i j i2 j2,v=>(i<(c.P nm).n/\i2<(c.G nm i j).n/\v= .pointer (aj (ad (c.G nm i j).blk ((c.G nm i j).off+i2*(c.G nm i j).sz+j2))))/\xX nm=aq
 | .fn f iA,v=>∃ps:de bg,v= .func (.func f) #[] ps/\ps.size=iA.length/\∀(q:aG) (cs:az CV),iA[q]? =aj cs->∃b:aG,ps[q]? =aj (.pointer (aj (ad b 0)))/\FB E w c.K b cs
 | .fp cs j,v=>∃b,v= .pointer (aj (ad b j))/\FB E w c.K b cs
def pO(E:Tab)(w:bF)(c:eK)(agg:aY)(xs:az AV)(v:bg):Prop:=
 match agg,xs with
 |false,[a]=>ea E w c a v
 |true,xs=>∃vals:de bg,v= .agg vals/\vals.size=xs.length/\∀(j:aG) (a:AV),xs[j]? =aj a->∃u:bg,vals[j]? =aj u/\ea E w c a u
 |_,_=>False
def iU(E:Tab)(w:bF)(c:eK):SV->bg->Prop
 | .v agg xs,v=>pO E w c agg xs v
 | .jc l,v=>∃vs:de bg,v= .tuple vs/\vs.size=l.length/\∀(j:aG) (agg:aY) (xs:az AV),l[j]? =aj (agg,xs)->∃u:bg,vs[j]? =aj u/\pO E w c agg xs u
 | .un,_=>True
def pk(E:Tab)(w:bF)(c:eK)(nm:aG):Obj->Prop
 | .box xs=>∃vals,nr w (c.P nm).blk vals/\vals.size=xs.length/\∀(j:aG) (a:AV),xs[j]? =aj a->∃u:bg,vals[j]? =aj u/\ea E w c a u
 | .nC cs=>FB E w c.K (c.P nm).blk cs
 | .row e ex xs=>KK E w c nm e ex xs
 | .fE e xs=>cY E w c.K (lj (c.P nm)) (.l e xs)/\(c.P nm).n=xs.length/\∃ti,E.ty e=aj ti/\(c.P nm).sz=ti.ks.length
 | .dead=>True
def fa(c:eK)(nm:aG):Obj->aG->Prop
 | .box _,b=>b=(c.P nm).blk
 | .row _ ex xs,b=>((c.P nm).nil=aq/\b=(c.P nm).blk)\/(ex=ak/\∃i j,fV xs i j/\(c.G nm i j).nil=aq/\b=(c.G nm i j).blk)
 |_,_=>False
def vp(σ:St)(c:eK)(b:aG):Prop:=∃nm o,σ (cW nm)= .o o/\fa c nm o b
def iS(σ:St)(a:AV):Prop:=∀n∈bI a,σ (cW n)≠ .jE
def mh(σ:St)(v:SV):Prop:=∀n∈cD v,σ (cW n)≠ .jE
structure Ok (E:Tab) (σ:St) (w:bF) (c:eK):Prop where
 obj:∀nm o,σ (cW nm)= .o o->pk E w c nm o
 sep:∀nm o v7 o' b,σ (cW nm)= .o o->σ (cW v7)= .o o'->fa c nm o b->fa c v7 o' b->nm=v7
 kk:∀nm o b,σ (cW nm)= .o o->fa c nm o b->¬c.K b
 lt:∀b,c.K b->b<w.heap.size
 kn:∀nm xs,σ (cW nm)= .o (.box xs)->∀a∈xs,iS σ a
structure eZ (E:Tab) (σ:St) (a:Act) (w:bF) (c:eK):Prop where
 ok:∀n,iU E w c (slot σ n) (a.eval (.tmp n))
 kn:∀n,mh σ (slot σ n)
 df:a.defers=[]
def jh(σ:St)(c c':eK):Prop:=∀nm,(σ (cW nm)≠ .jE\/900000000<=nm)->c'.P nm=c.P nm/\c'.G nm=c.G nm
def qA(σ:St)(c c':eK):Prop:=∀nm,(σ (cW nm)≠ .jE\/900000000<=nm)->c'.P nm=c.P nm/\(xX nm=aq->c'.G nm=c.G nm)
theorem jh.w{σ:St}{c c':eK}(h:jh σ c c'):qA σ c c':=λnm hn=>⟨(h nm hn).1,λ_=>(h nm hn).2⟩
structure nR (σ:St) (c:eK) (w:bF) (σ':St) (c':eK) (w':bF):Prop where
 os:w'.os=w.os
 tape:w'.tape=w.tape
 output:w'.output=w.output
 size:w.heap.size<=w'.heap.size
 K:∀b,c.K b->c'.K b
 same:∀b,b<w.heap.size->¬vp σ c b->w'.heap[b]? =w.heap[b]?
 own:∀b,vp σ' c' b->vp σ c b\/w.heap.size<=b
 kn:∀b,c'.K b->c.K b\/vp σ c b\/w.heap.size<=b
theorem vp.lt{E:Tab}{σ:St}{w:bF}{c:eK}(h:Ok E σ w c){b:aG}(ho:vp σ c b):b<w.heap.size:=by
 obtain⟨nm,o,h1,h2⟩:=ho;have mq:=h.obj nm o h1;cases o with
 |box xs=>obtain⟨vals,hb,_⟩:=mq;cases h2;exact hb.lt
 |nC=>exact h2.elim
 |fE=>exact h2.elim
 |dead=>exact h2.elim
 |row e ex xs=>
  rcases h2 with ⟨hn,rfl⟩|⟨hex,i,j,⟨y,x,hy,hx,hl⟩,hn,rfl⟩
  ·obtain⟨vals,hb,_⟩:=mq.at_.mem hn;exact hb.lt
  ·by_cases hp:(c.P nm).nil=ak
   ·have:=(mq.at_.nil hp).1;subst this;simp at hy
   ·obtain⟨vals,hb,_,_,_,hc⟩:=mq.at_.mem (by simpa using hp);obtain⟨u,_,hu⟩:=hc i y j x hy hx;rw[bC hex]at hu;cases x with
    |l e2 ys=>obtain⟨_,ti,_,_,_,_,hr⟩:=hu;obtain⟨v2,Du,_⟩:=hr.mem hn;exact Du.lt
    |i=>simp[tc]at hl
    |b=>simp[tc]at hl
    |s=>simp[tc]at hl
theorem Ok.HH{E:Tab}{σ:St}{w:bF}{c:eK}(h:Ok E σ w c){b:aG}(ho:vp σ c b):¬c.K b:=by obtain⟨nm,o,h1,h2⟩:=ho;exact h.kk nm o b h1 h2
theorem nR.refl(σ:St)(c:eK)(w:bF):nR σ c w σ c w:=
 ⟨rfl,rfl,rfl,cu _,λ_ h=>h,λ_ _ _=>rfl,λ_ h=> .inl h,λ_ h=> .inl h⟩
theorem nR.trans{σ σ1 σ2:St}{c c1 c2:eK}{w w1 w2:bF}(h:nR σ c w σ1 c1 w1)(k:nR σ1 c1 w1 σ2 c2 w2):nR σ c w σ2 c2 w2 where
 os:=k.os.trans h.os
 tape:=k.tape.trans h.tape
 output:=k.output.trans h.output
 size:=c_ h.size k.size
 K b hb:=k.K b (h.K b hb)
 same b hb hn:=(k.same b (jb hb h.size) (λho=>(h.own b ho).elim hn (λh=>by omega))).trans (h.same b hb hn)
 own b hb:=(k.own b hb).elim (h.own b) (λh1=> .inr (c_ h.size h1))
 kn b hb:=by
  rcases k.kn b hb with h1|h1|h1
  ·exact h.kn b h1
  ·exact .inr (h.own b h1)
  ·exact .inr (.inr (c_ h.size h1))
theorem nR.Xq{E:Tab}{σ σ':St}{c c':eK}{w w':bF}(b8:Ok E σ w c)(h:nR σ c w σ' c' w'):∀b,c.K b->w'.heap[b]? =w.heap[b]? :=
 λb hb=>h.same b (b8.lt b hb) (λho=>b8.HH ho hb)
theorem FB.frame{E:Tab}{w w':bF}{K K':aG->Prop}{b:aG}{cs:az CV}(h:FB E w K b cs)(hw:∀b,K b->w'.heap[b]? =w.heap[b]?)(hK:∀b,K b->K' b):FB E w' K' b cs:=
 ⟨hK b h.1,λq x hq=>by
  obtain⟨u,hu,hh⟩:=h.2 q x hq;exact⟨u,(tH (a:=ad b q) (hw b h.1)).trans hu,hh.frame hw hK⟩⟩
theorem ea.oN{E:Tab}{w w':bF}{c c':eK}{a:AV}{v:bg}(h:ea E w c a v)(hw:∀b,c.K b->w'.heap[b]? =w.heap[b]?)(hK:∀b,c.K b->c'.K b)
  (hP:∀n∈bI a,c'.P n=c.P n/\(xX n=aq->c'.G n=c.G n)):ea E w' c' a v:=by
 cases a with
 |i=>exact h
 |b=>exact h
 |s=>exact h
 |nl=>exact h
 |sh e xs=>exact cY.frame h hw hK
 |own n=>have:=hP n (by simp[bI]);simp only[ea,this.1]at h⊢;exact h
 |vw n lo hi=>have:=hP n (by simp[bI]);simp only[ea,this.1]at h⊢;exact h
 |bp n j=>have:=hP n (by simp[bI]);simp only[ea,this.1]at h⊢;exact h
 |rp n i j=>have:=hP n (by simp[bI]);simp only[ea,this.1]at h⊢;exact h
 |inn n i j=>have h0:=hP n (by simp[bI]);have this:=h0.2 h.2;simp only[ea,h0.1,this]at h⊢;exact h
 |ip n i j i2 j2=>have h0:=hP n (by simp[bI]);have this:=h0.2 h.2;simp only[ea,h0.1,this]at h⊢;exact h
 |sp e xs i j=>obtain⟨b,o,cp,ti,h1,h2,h3,h4⟩:=h;exact⟨b,o,cp,ti,h1.frame hw hK,h2,h3,h4⟩
 |fn f iA=>obtain⟨ps,h1,h2,h3⟩:=h;exact⟨ps,h1,h2,λq cs hq=>by obtain⟨b,hb,hf⟩:=h3 q cs hq;exact⟨b,hb,hf.frame hw hK⟩⟩
 |fp cs j=>obtain⟨b,h1,h2⟩:=h;exact⟨b,h1,h2.frame hw hK⟩
theorem pO.oN{E:Tab}{w w':bF}{c c':eK}{agg:aY}{xs:az AV}{v:bg}(h:pO E w c agg xs v)(hw:∀b,c.K b->w'.heap[b]? =w.heap[b]?)(hK:∀b,c.K b->c'.K b)
  (hP:∀n∈xs.flatMap bI,c'.P n=c.P n/\(xX n=aq->c'.G n=c.G n)):pO E w' c' agg xs v:=by
 unfold pO at h⊢;split at h
 ·rename_i a;exact ea.oN h hw hK (λn hn=>hP n (by simpa using hn))
 ·obtain⟨vals,h1,h2,h3⟩:=h;refine⟨vals,h1,h2,λj a hj=> ?_⟩
  obtain⟨u,hu,hv⟩:=h3 j a hj;exact⟨u,hu,hv.oN hw hK (λn hn=>hP n (bG.2 ⟨a,aQ hj,hn⟩))⟩
 ·exact h.elim
theorem iU.oN{E:Tab}{w w':bF}{c c':eK}{s:SV}{v:bg}(h:iU E w c s v)(hw:∀b,c.K b->w'.heap[b]? =w.heap[b]?)(hK:∀b,c.K b->c'.K b)
  (hP:∀n∈cD s,c'.P n=c.P n/\(xX n=aq->c'.G n=c.G n)):iU E w' c' s v:=by
 cases s with
 |un=>trivial
 |v agg xs=>exact pO.oN h hw hK hP
 |jc l=>
  obtain⟨vs,h1,h2,h3⟩:=h;refine⟨vs,h1,h2,λj agg xs hj=> ?_⟩
  obtain⟨u,hu,hv⟩:=h3 j agg xs hj;exact⟨u,hu,hv.oN hw hK (λn hn=>hP n (bG.2 ⟨(agg,xs),aQ hj,hn⟩))⟩
theorem ea.frame{E:Tab}{w w':bF}{c c':eK}{a:AV}{v:bg}(h:ea E w c a v)(hw:∀b,c.K b->w'.heap[b]? =w.heap[b]?)(hK:∀b,c.K b->c'.K b)
  (hP:∀n∈bI a,c'.P n=c.P n/\c'.G n=c.G n):ea E w' c' a v:=h.oN hw hK (λn hn=>⟨(hP n hn).1,λ_=>(hP n hn).2⟩)
theorem pO.frame{E:Tab}{w w':bF}{c c':eK}{agg:aY}{xs:az AV}{v:bg}(h:pO E w c agg xs v)(hw:∀b,c.K b->w'.heap[b]? =w.heap[b]?)(hK:∀b,c.K b->c'.K b)
  (hP:∀n∈xs.flatMap bI,c'.P n=c.P n/\c'.G n=c.G n):pO E w' c' agg xs v:=h.oN hw hK (λn hn=>⟨(hP n hn).1,λ_=>(hP n hn).2⟩)
theorem iU.frame{E:Tab}{w w':bF}{c c':eK}{s:SV}{v:bg}(h:iU E w c s v)(hw:∀b,c.K b->w'.heap[b]? =w.heap[b]?)(hK:∀b,c.K b->c'.K b)
  (hP:∀n∈cD s,c'.P n=c.P n/\c'.G n=c.G n):iU E w' c' s v:=h.oN hw hK (λn hn=>⟨(hP n hn).1,λ_=>(hP n hn).2⟩)
theorem iT.frame{w w':bF}{p:Pl}{xs:aX}{R R':aG->aG->bg->CV->Prop}(h:iT w p xs R)(hw:p.nil=aq->w'.heap[p.blk]? =w.heap[p.blk]?)
  (hR:∀i j y x u,xs[i]? =aj y->y[j]? =aj x->R i j u x->R' i j u x):iT w' p xs R' where
 n:=h.n
 nil:=h.nil
 mem hn:=by
  obtain⟨vals,h1,h2,h3,h4,h5⟩:=h.mem hn;refine⟨vals,h1.frame (hw hn),h2,h3,h4,λi y j x hi hj=> ?_⟩
  obtain⟨u,hu,hr⟩:=h5 i y j x hi hj;exact⟨u,hu,hR i j y x u hi hj hr⟩
theorem XC.frame{E:Tab}{w w':bF}{G:aG->aG->Pl}{i j:aG}{u:bg}{x:CV}(h:XC E w G i j u x)(hw:tc x=ak->(G i j).nil=aq->w'.heap[(G i j).blk]? =w.heap[(G i j).blk]?):XC E w' G i j u x:=by
 cases x with
 |l e ys=>obtain⟨h1,ti,h2,h3,h4,h5,h6⟩:=h;exact⟨h1,ti,h2,h3,h4,h5,h6.frame (hw rfl) (λ_ _ _ _ _ _ _ h=>h)⟩
 |i=>exact h
 |b=>exact h
 |s=>exact h
theorem pk.frame{E:Tab}{w w':bF}{c c':eK}{nm:aG}{o:Obj}(h:pk E w c nm o)(hw:∀b,c.K b->w'.heap[b]? =w.heap[b]?)(hK:∀b,c.K b->c'.K b)
  (hf:∀b,fa c nm o b->w'.heap[b]? =w.heap[b]?) (hP:c'.P nm=c.P nm/\c'.G nm=c.G nm)
  (hPs:∀xs,o= .box xs->∀a∈xs,∀n∈bI a,c'.P n=c.P n/\(xX n=aq->c'.G n=c.G n)):pk E w' c' nm o:=by
 cases o with
 |dead=>trivial
 |box xs=>
  obtain⟨vals,h1,h2,h3⟩:=h;refine⟨vals, ?_,h2,λj a hj=> ?_⟩
  ·rw[hP.1];exact h1.frame (hf _ rfl)
  ·obtain⟨u,hu,hv⟩:=h3 j a hj;exact⟨u,hu,hv.oN hw hK (hPs xs rfl a (aQ hj))⟩
 |nC cs=>show FB E w' c'.K (c'.P nm).blk cs;rw[hP.1];exact FB.frame h hw hK
 |fE e xs=>
  obtain⟨h1,h2,h3⟩:=h;refine⟨?_, ?_, ?_⟩
  ·rw[hP.1];exact h1.frame hw hK
  ·rw[hP.1];exact h2
  ·rw[hP.1];exact h3
 |row e ex xs=>
  obtain⟨h1,h2,h3⟩:=h;refine⟨by rw[hP.1];exact h1, ?_,by rw[hP.1,hP.2];exact h3⟩
  rw[hP.1,hP.2];refine h2.frame (λhn=>hf _ (.inl ⟨hn,rfl⟩)) (λi j y x u hi hj hr=> ?_);by_cases hx:ex=ak
  ·rw[bC hx]at hr⊢;exact hr.frame (λhl hn=>hf _ (.inr ⟨hx,i,j,⟨y,x,hi,hj,hl⟩,hn,rfl⟩))
  ·rw[bL hx]at hr⊢;exact hr.frame hw hK
end Go.FG

namespace Go.FG
theorem sR(s:St)(k:aG)(c:eu):pf s k c k=c:=by simp[pf]
theorem yB(s:St){k n:aG}(c:eu)(h:n≠k):pf s k c n=s n:=by
 have:bA n k=false:=by
  cases hb:bA n k with
  |false=>rfl
  |true=>exact cq (aW hb) h
 simp[pf,this]
theorem rj(n m:aG):pU n≠cW m:=by unfold pU cW;omega
theorem lM(n m:aG):cW n≠pU m:=by unfold pU cW;omega
theorem FD{n m:aG}(h:pU n=pU m):n=m:=by unfold pU at h;omega
theorem jB{n m:aG}(h:cW n=cW m):n=m:=by unfold cW at h;omega
theorem H_(s:St)(d:aG)(c:eu)(m:aG):pf s (pU d) c (cW m)=s (cW m):=yB s c (lM m d)
theorem pE(s:St)(n:aG)(c:eu)(m:aG):pf s (cW n) c (cW m)=if m=n then c else s (cW m):=by
 by_cases h:m=n
 ·subst h;simp[sR]
 ·rw[bL h];exact yB s c (λe=>h (jB e))
theorem iY(s:St)(n:aG)(c:eu)(m:aG):slot (pf s (cW n) c) m=slot s m:=by unfold slot;rw[yB s c (rj m n)]
theorem wu(s:St)(d:aG)(v:SV)(m:aG):slot (pf s (pU d) (.v v)) m=if m=d then v else slot s m:=by
 by_cases h:m=d
 ·subst h;simp[slot,sR]
 ·rw[bL h];unfold slot;rw[yB s _ (λe=>h (FD e))]
theorem NW(s:St)(l r:az (aG×eu)):wr s (l++r)=wr (wr s l) r:=by
 induction l generalizing s with
 |nil=>rfl
 |cons a l ih=>obtain⟨k,c⟩:=a;exact ih _
def Rd.val{α:Type}(m:Rd α)(σ:St):aD α:=(m.run σ []).map (·.1)
theorem kO{α:Type}(m:Rd α)(σ:St):∀l,(m.run σ l).map (·.1)=m.val σ:=by
 induction m with
 |ret a=>intro l;rfl
 |fail=>intro l;rfl
 |get k f ih=>intro l;simp only[Rd.run,Rd.val];rw[ih,ih]
theorem Rd.Kl{α:Type}{m:Rd α}{σ:St}{l l':az aG}{a:α}(h:m.run σ l=aj (a,l')):m.val σ=aj a:=by rw[<-kO m σ l,h];rfl
@[simp] theorem Rd.ajh {α:Type} (a:α) (σ:St):(Rd.ret a).val σ=some a:=rfl
@[simp] theorem Rd.ah1 {α:Type} (σ:St):(Rd.fail:Rd α).val σ=none:=rfl
@[simp] theorem Rd.Ad {α:Type} (k:Nat) (f:eu->Rd α) (σ:St):(Rd.get k f).val σ=(f (σ k)).val σ:=by
 simp only[Rd.val,Rd.run];exact(kO (f (σ k)) σ [k])
@[simp] theorem Rd.Tf {α β:Type} (m:Rd α) (f:α->Rd β) (σ:St):(m.bind f).val σ=(m.val σ).bind λa=>(f a).val σ:=by
 induction m with
 |ret a=>rfl
 |fail=>rfl
 |get k g ih=>simp only[Rd.bind,Rd.Ad];exact ih _
theorem Rd.bind_some{α β:Type}{m:Rd α}{f:α->Rd β}{σ:St}{b:β}(h:(m.bind f).val σ=aj b):∃a,m.val σ=aj a/\(f a).val σ=aj b:=by rw[Rd.Tf,Option.bind_eq_some_iff]at h;exact h
theorem cE{α:Type}{b:aY}{m:Rd α}{σ:St}{a:α}(h:(bif b then m else Rd.fail).val σ=aj a):b=ak/\m.val σ=aj a:=by
 cases b with
 |true=>exact⟨rfl,h⟩
 |false=>simp at h
def jH(Ch:aG->Prop)(σ:St)(c:eK)(b:aG):Prop:=∃nm o,Ch nm/\σ (cW nm)= .o o/\fa c nm o b
theorem jH.own{Ch:aG->Prop}{σ:St}{c:eK}{b:aG}(h:jH Ch σ c b):vp σ c b:=by obtain⟨nm,o,_,h1,h2⟩:=h;exact⟨nm,o,h1,h2⟩
theorem lK{c c':eK}{nm:aG}{o:Obj}(h:c'.P nm=c.P nm/\c'.G nm=c.G nm)(b:aG):fa c' nm o b=fa c nm o b:=by cases o<;>simp only[fa,h.1,h.2]
theorem Ok.vI{E:Tab}{σ σ':St}{w w':bF}{c c':eK}(h:Ok E σ w c)(Ch:aG->Prop)
  (hσ:∀nm,¬Ch nm->σ' (cW nm)=σ (cW nm)) (h_:∀nm,σ (cW nm)≠ .jE->σ' (cW nm)≠ .jE) (hA:qA σ c c') (hAG:∀nm,¬Ch nm->σ (cW nm)≠ .jE->c'.G nm=c.G nm)
  (hW:∀b,b<w.heap.size->¬jH Ch σ c b->w'.heap[b]? =w.heap[b]?) (fT:w.heap.size<=w'.heap.size)
  (hK:∀b,c.K b->c'.K b) (TP:∀b,c'.K b->c.K b\/jH Ch σ c b\/w.heap.size<=b) (E2:∀b,c'.K b->b<w'.heap.size)
  (mq:∀nm o,Ch nm->σ' (cW nm)= .o o->pk E w' c' nm o)
  (py:∀nm o b,Ch nm->σ' (cW nm)= .o o->fa c' nm o b->(jH Ch σ c b\/w.heap.size<=b)/\¬c'.K b)
  (QK:∀nm o v7 o' b,Ch nm->Ch v7->σ' (cW nm)= .o o->σ' (cW v7)= .o o'->fa c' nm o b->fa c' v7 o' b->nm=v7)
  (Hi:∀nm xs,Ch nm->σ' (cW nm)= .o (.box xs)->∀a∈xs,iS σ' a)
  (Nd:w'.os=w.os) (QL:w'.tape=w.tape) (abB:w'.output=w.output):Ok E σ' w' c'/\nR σ c w σ' c' w':=by
 have LP:∀nm o b,¬Ch nm->σ (cW nm)= .o o->fa c nm o b->¬jH Ch σ c b:=by intro nm o b hc ho hf ⟨ic,o2,hc2,ho2,hf2⟩;exact hc (h.sep nm o ic o2 b ho ho2 hf hf2▸hc2)
 have agr:∀nm o,¬Ch nm->σ' (cW nm)= .o o->σ (cW nm)= .o o/\(c'.P nm=c.P nm/\c'.G nm=c.G nm):=by intro nm o hc ho;rw[hσ nm hc]at ho;exact⟨ho,(hA nm (.inl (by rw[ho];simp))).1,hAG nm hc (by rw[ho];simp)⟩
 have afK:∀b,c.K b->w'.heap[b]? =w.heap[b]? :=λb hb=>hW b (h.lt b hb) (λhi=>h.HH hi.own hb);have lt:∀nm o b,σ (cW nm)= .o o->fa c nm o b->b<w.heap.size:=λnm o b ho hf=>vp.lt h ⟨nm,o,ho,hf⟩;refine⟨⟨?_, ?_, ?_,E2, ?_⟩,⟨Nd,QL,abB,fT,hK, ?_, ?_, ?_⟩⟩
 ·intro nm o ho;by_cases hc:Ch nm
  ·exact mq nm o hc ho
  ·obtain⟨ug,ha⟩:=agr nm o hc ho;refine(h.obj nm o ug).frame afK hK (λb hb=>hW b (lt nm o b ug hb) (LP nm o b hc ug hb)) ha ?_;intro xs hx a hm n hn;exact hA n (.inl (h.kn nm xs (hx▸ug) a hm n hn))
 ·intro nm o v7 o' b ho ug hf wH;by_cases hc:Ch nm
  ·by_cases Hc:Ch v7
   ·exact QK nm o v7 o' b hc Hc ho ug hf wH
   ·obtain⟨h1,ha⟩:=agr v7 o' Hc ug;rw[lK ha]at wH;rcases(py nm o b hc ho hf).1 with hi|hi
    ·exact cq hi (LP v7 o' b Hc h1 wH)
    ·have:=lt v7 o' b h1 wH;omega
  ·obtain⟨h1,ha⟩:=agr nm o hc ho;rw[lK ha]at hf;by_cases Hc:Ch v7
   ·rcases(py v7 o' b Hc ug wH).1 with hi|hi
    ·exact cq hi (LP nm o b hc h1 hf)
    ·have:=lt nm o b h1 hf;omega
   ·obtain⟨h2,ha'⟩:=agr v7 o' Hc ug;rw[lK ha']at wH;exact h.sep nm o v7 o' b h1 h2 hf wH
 ·intro nm o b ho hf;by_cases hc:Ch nm
  ·exact(py nm o b hc ho hf).2
  ·obtain⟨h1,ha⟩:=agr nm o hc ho;rw[lK ha]at hf;intro hk;rcases TP b hk with h2|h2|h2
   ·exact h.kk nm o b h1 hf h2
   ·exact LP nm o b hc h1 hf h2
   ·have:=lt nm o b h1 hf;omega
 ·intro nm xs ho a hm;by_cases hc:Ch nm
  ·exact Hi nm xs hc ho a hm
  ·obtain⟨h1,_⟩:=agr nm _ hc ho;intro n hn;exact h_ n (h.kn nm xs h1 a hm n hn)
 ·intro b hb hn;exact hW b hb (λhi=>hn hi.own)
 ·rintro b ⟨nm,o,ho,hf⟩;by_cases hc:Ch nm
  ·exact(py nm o b hc ho hf).1.imp jH.own id
  ·obtain⟨h1,ha⟩:=agr nm o hc ho;rw[lK ha]at hf;exact .inl ⟨nm,o,h1,hf⟩
 ·intro b hb;rcases TP b hb with h2|h2|h2
  ·exact .inl h2
  ·exact .inr (.inl h2.own)
  ·exact .inr (.inr h2)
theorem Ok.change{E:Tab}{σ σ':St}{w w':bF}{c c':eK}(h:Ok E σ w c)(Ch:aG->Prop)
  (hσ:∀nm,¬Ch nm->σ' (cW nm)=σ (cW nm)) (h_:∀nm,σ (cW nm)≠ .jE->σ' (cW nm)≠ .jE) (hA:jh σ c c')
  (hW:∀b,b<w.heap.size->¬jH Ch σ c b->w'.heap[b]? =w.heap[b]?) (fT:w.heap.size<=w'.heap.size)
  (hK:∀b,c.K b->c'.K b) (TP:∀b,c'.K b->c.K b\/jH Ch σ c b\/w.heap.size<=b) (E2:∀b,c'.K b->b<w'.heap.size)
  (mq:∀nm o,Ch nm->σ' (cW nm)= .o o->pk E w' c' nm o)
  (py:∀nm o b,Ch nm->σ' (cW nm)= .o o->fa c' nm o b->(jH Ch σ c b\/w.heap.size<=b)/\¬c'.K b)
  (QK:∀nm o v7 o' b,Ch nm->Ch v7->σ' (cW nm)= .o o->σ' (cW v7)= .o o'->fa c' nm o b->fa c' v7 o' b->nm=v7)
  (Hi:∀nm xs,Ch nm->σ' (cW nm)= .o (.box xs)->∀a∈xs,iS σ' a)
  (Nd:w'.os=w.os) (QL:w'.tape=w.tape) (abB:w'.output=w.output):Ok E σ' w' c'/\nR σ c w σ' c' w':=
 h.vI Ch hσ h_ hA.w (λnm _ hn=>(hA nm (.inl hn)).2) hW fT hK TP E2 mq py QK Hi Nd QL abB
theorem Ok.slot{E:Tab}{σ σ':St}{w:bF}{c:eK}(h:Ok E σ w c)(hσ:∀nm,σ' (cW nm)=σ (cW nm)):Ok E σ' w c/\nR σ c w σ' c w:=by
 refine⟨⟨λnm o ho=>h.obj nm o (hσ nm▸ho),λnm o v7 o' b h1 h2=>h.sep nm o v7 o' b (hσ nm▸h1) (hσ v7▸h2),λnm o b h1=>h.kk nm o b (hσ nm▸h1),h.lt,λnm xs ho a hm n hn=>by rw[hσ];exact h.kn nm xs (hσ nm▸ho) a hm n hn⟩,
  ⟨rfl,rfl,rfl,cu _,λ_ h=>h,λ_ _ _=>rfl,λb ⟨nm,o,ho,hf⟩=> .inl ⟨nm,o,hσ nm▸ho,hf⟩,λ_ h=> .inl h⟩⟩
theorem Cx(a:Act)(d:aG)(v:bg)(h:d<a.tmps.size):(a.put (aj d) v).eval (.tmp d)=v:=by simp[TA,Gm,h]
theorem G2(a:Act)(d n:aG)(v:bg)(h:n≠d):(a.put (aj d) v).eval (.tmp n)=a.eval (.tmp n):=by simp only[TA,Gm,ed,nJ];rw[bL (λe=>h e.symm)]
theorem eZ.vI{E:Tab}{σ σ':St}{a:Act}{w w':bF}{c c':eK}(h:eZ E σ a w c)(b8:Ok E σ w c)(hG:nR σ c w σ' c' w')(hA:qA σ c c')(h_:∀nm,σ (cW nm)≠ .jE->σ' (cW nm)≠ .jE)
  (o:eV) (v:bg) (hs:∀n,o.dst≠aj n->slot σ' n=slot σ n) (hd:∀d,o.dst=aj d->d<a.tmps.size/\iU E w' c' (slot σ' d) v/\mh σ' (slot σ' d)):eZ E σ' (a.put o.dst v) w' c':=by
 have keep:∀n,iU E w' c' (slot σ n) (a.eval (.tmp n)):=λn=>(h.ok n).oN (hG.Xq b8) hG.K (λm hm=>hA m (.inl (h.kn n m hm)));have YQ:∀n,mh σ' (slot σ n):=λn m hm=>h_ m (h.kn n m hm);cases ho:o.dst with
 |none=>
  refine⟨λn=> ?_,λn=> ?_,h.df⟩
  ·rw[hs n (by simp[ho])];exact keep n
  ·rw[hs n (by simp[ho])];exact YQ n
 |some d=>
  obtain⟨h1,h2,h3⟩:=hd d ho;refine⟨λn=> ?_,λn=> ?_,h.df⟩
  ·by_cases hn:n=d
   ·subst hn;rw[Cx a n v h1];exact h2
   ·rw[G2 a d n v hn,hs n (by rw[ho];simpa using λe=>hn e.symm)];exact keep n
  ·by_cases hn:n=d
   ·subst hn;exact h3
   ·rw[hs n (by rw[ho];simpa using λe=>hn e.symm)];exact YQ n
theorem eZ.change{E:Tab}{σ σ':St}{a:Act}{w w':bF}{c c':eK}(h:eZ E σ a w c)(b8:Ok E σ w c)(hG:nR σ c w σ' c' w')(hA:jh σ c c')(h_:∀nm,σ (cW nm)≠ .jE->σ' (cW nm)≠ .jE)
  (o:eV) (v:bg) (hs:∀n,o.dst≠aj n->slot σ' n=slot σ n) (hd:∀d,o.dst=aj d->d<a.tmps.size/\iU E w' c' (slot σ' d) v/\mh σ' (slot σ' d)):eZ E σ' (a.put o.dst v) w' c':=
 h.vI b8 hG hA.w h_ o v hs hd
theorem rk(σ:St)(o:eV)(v:SV):(∀n,o.dst≠aj n->slot (wr σ (dw o v)) n=slot σ n)/\(∀d,o.dst=aj d->slot (wr σ (dw o v)) d=v)/\∀nm,wr σ (dw o v) (cW nm)=σ (cW nm):=by
 cases ho:o.dst with
 |none=>simp[dw,ho,wr]
 |some d=>
  refine⟨λn hn=> ?_,λd' hd=> ?_,λnm=> ?_⟩
  ·simp only[dw,ho,wr];rw[wu,bL (by rintro rfl;exact hn rfl)]
  ·cases hd;simp only[dw,ho,wr];rw[wu,bC rfl]
  ·simp only[dw,ho,wr];exact H_ _ _ _ _
end Go.FG

namespace Go.FG
def ik:Ck->bg
 | .i k=> .int k 0| .b=> .bool aq| .s=> .string ⟨#[]⟩| .l _=> .slice ao 0 0| .o=> .nilIface
def lA:AV->bg
 | .i k n=> .int k n| .b x=> .bool x| .s x=> .string x|_=> .nilIface
structure dZ (P:cQ) (E:Tab):Prop where
 info:∀t ti,E.ty t=aj ti->∃inf,P.info? t=aj inf/\inf.size=ti.ks.length/\inf.bytes=ti.bytes/\0<ti.ks.length/\
  (JO ti.ks=ak->∃z,inf.zero=aj z/\z.cells=(ti.ks.map ik).toArray/\(ti.agg=ak->z= .agg (ti.ks.map ik).toArray))
 desc:∀t ti,E.ty t=aj ti->∃d,P.underlying t=aj d/\
  (ti.agg=ak->∃fs,d= .struct fs/\∀f o n,E.fo t f=aj (o,n)->∃fd,fs[f]? =aj fd/\fd.offset=o/\(P.info? fd.type).map (·.size)=aj n/\n≠0/\o+n<=ti.ks.length)/\
  (ti.agg=aq->(∃k,ti.ks=[.i k]/\d= .int k)\/(ti.ks=[.b]/\d= .bool)\/(ti.ks=[.s]/\d= .string)\/(∃e,ti.ks=[.l e]/\d= .slice e)\/
   (ti.ks=[.o]/\(match d with| .struct _| .array _ _=>aq|_=>ak)=ak))
 fo:∀t f o n,E.fo t f=aj (o,n)->∃ti,E.ty t=aj ti/\ti.agg=ak
 pl:∀t ti,E.ty t=aj ti->ti.agg=ak->∀fs,P.underlying t=aj (.struct fs)->∃pl,fs.toList.mapM (λf=>(P.info? f.type).map λi=>(f.offset,i.size))=aj pl/\∀f o n,E.fo t f=aj (o,n)->pl[f]? =aj (o,n)
 eq:∀t ti,l_ t E.eqs=ak->E.ty t=aj ti->∀(w:bF) (x y:dn) (xs ys:az AV) (r:aY),UH xs ys=aj r->xs.map Fb=ti.ks->ys.map Fb=ti.ks->
  (do eqGuard .eql t x y (.agg (xs.map lA).toArray) (.agg (ys.map lA).toArray);binOp .eql t (.agg (xs.map lA).toArray) (.agg (ys.map lA).toArray)).run P w= .ok (.bool r) w/\
  (do eqGuard .neq t x y (.agg (xs.map lA).toArray) (.agg (ys.map lA).toArray);binOp .neq t (.agg (xs.map lA).toArray) (.agg (ys.map lA).toArray)).run P w= .ok (.bool !r) w
 fl:∀t f,E.Qo t f=ak->∀fs fd,P.underlying t=aj (.struct fs)->fs[f]? =aj fd->∀w,(Go.isAgg fd.type).run P w= .ok aq w
theorem Df{v:bg}(h:v.oneCell'=ak):v.cells= #[v]:=by cases v<;>simp_all [Value.cells,Value.oneCell']
theorem ea.one{E:Tab}{w:bF}{c:eK}{a:AV}{v:bg}(h:ea E w c a v):v.oneCell'=true:=by
 cases a with
 |i=>cases h;rfl
 |b=>cases h;rfl
 |s=>cases h.1;rfl
 |nl=>cases h;rfl
 |sh e xs=>cases h<;>rfl
 |own n=>cases h;unfold lj;split<;>rfl
 |vw n lo hi=>
  obtain⟨_,_,h1,h2⟩:=h;by_cases hn:(c.P n).nil=ak
  ·rw[h1 hn];rfl
  ·rcases h2 (by simpa using hn)with ⟨_,h⟩|⟨_,o,_,h⟩<;>rw[h]<;>rfl
 |bp n j=>cases h;rfl
 |rp n i j=>rw[h.2];rfl
 |sp e xs i j=>obtain⟨_,_,_,_,_,_,_,h⟩:=h;rw[h];rfl
 |inn n i j=>rw[h.1.2];unfold lj;split<;>rfl
 |ip n i j i2 j2=>rw[h.1.2.2];rfl
 |fn f iA=>obtain⟨ps,h,_⟩:=h;rw[h];rfl
 |fp cs j=>obtain⟨b,h,_⟩:=h;rw[h];rfl
section
variable {P:cQ} (w:bF)
theorem Addr.nA(b o i:aG):(ad b o).add i=ad b (o+i):=by unfold Addr.add ad;split<;>simp_all
theorem CL(b o:aG):∀(vs:az bg) (i:aG) (w:bF) (cur:de bg),nr w b cur->o+i+vs.length<=cur.size->(∀v∈vs,v.oneCell'=ak)->
  (storeCells (ad b o) vs i).run P w= .ok () (w.setRow b (cur.toList.take (o+i)++vs++cur.toList.drop (o+i+vs.length)).toArray):=by
 intro vs;induction vs with
 |nil=>intro i w cur hb _ _;obtain⟨t,fr,hg,hf⟩:=hb;simp only[storeCells,di,jr,wT,List.take_append_drop,sV];rw[setRow_self w b cur t fr hg];rfl
 |cons v rest ih=>
  intro i w cur hb hl h1;have hi:o+i<cur.size:=by simp at hl;omega
  have amD:=hb.free hi;obtain⟨t,fr,hg,hf⟩:=hb;have hcell:w.cell? (ad b (o+i))=aj cur[o+i]:=by simp[World.cell?,hg,hi]
  have JA:(store ((ad b o).add i) v).run P w= .ok () (w.setRow b (cur.setIfInBounds (o+i) v)):=by rw[Addr.nA,run_store P w _ v _ (h1 v (by simp)),hcell];simp[amD,setCell_eq_setRow w b (o+i) cur t fr v hg]
  have Oa:nr (w.setRow b (cur.setIfInBounds (o+i) v)) b (cur.setIfInBounds (o+i) v):=⟨t,fr,setRow_heap w b cur _ t fr hg,by simpa using hf⟩
  have ih':=ih (i+1) (w.setRow b (cur.setIfInBounds (o+i) v)) (cur.setIfInBounds (o+i) v) Oa (by simp at hl⊢;omega) (λx hx=>h1 x (by simp[hx]));simp only[storeCells,cg,JA,bB,ih',setRow_setRow];congr 3;have e:=list_seg_step cur.toList (o+i) v rest (by simp at hl⊢;omega);simpa [Array.toList_setIfInBounds,lC]using e
def dV(cur:de bg)(o:aG)(vs:az bg):de bg:=(cur.toList.take o++vs++cur.toList.drop (o+vs.length)).toArray
theorem eO{cur:de bg}{o:aG}{vs:az bg}(h:o+vs.length<=cur.size):(dV cur o vs).size=cur.size:=by simp[dV];omega
theorem fY{cur:de bg}{o:aG}{vs:az bg}(h:o+vs.length<=cur.size)(k:aG):
  (dV cur o vs)[k]? =if o<=k/\k<o+vs.length then vs[k-o]? else cur[k]? :=by
 simp only[dV,gQ];by_cases h1:k<o
 ·rw[bL (by omega),cj,dg (by simp;omega),dR,bC h1];simp
 ·by_cases h2:k<o+vs.length
  ·rw[bC ⟨by omega,h2⟩,cj,cZ (by simp;omega),dg (by simp;omega)];congr 1;simp;omega
  ·rw[bL (by omega),cj,cZ (by simp;omega),cZ (by simp;omega),dJ];simp only[cO];congr 1;simp;omega
theorem mY{b o:aG}{vs:az bg}{cur:de bg}(hb:nr w b cur)(hl:o+vs.length<=cur.size)(h1:∀v∈vs,v.oneCell'=ak):
  (storeCells (ad b o) vs).run P w= .ok () (w.setRow b (dV cur o vs)):=by have:=CL (P:=P) b o vs 0 w cur hb (by simpa using hl) h1;simpa [dV]using this
theorem nr.setRow{w:bF}{b:aG}{cur new:de bg}(h:nr w b cur)(hs:new.size=cur.size):nr (w.setRow b new) b new:=by obtain⟨t,fr,hg,hf⟩:=h;exact⟨t,fr,setRow_heap w b cur new t fr hg,by rw[hs];exact hf⟩
theorem nr.alloc(w:bF)(cs:de bg)(t:TypeId):nr (w.alloc (.cells cs t)) w.heap.size cs:=
 ⟨t,(0,0),heap_alloc_new w _,λo _=>by simp⟩
theorem wi{b o:aG}{cs:az bg}(h:∀j v,cs[j]? =aj v->w.cell? (ad b (o+j))=aj v):(loadCells (ad b o) cs.length).run P w= .ok cs.toArray w:=
 run_loadCells_list w (ad b o) cs (λj v hj=>by rw[Addr.nA];exact h j v hj)
theorem BJ{E:Tab}(hE:dZ P E){t:aG}{ti:TI}(ht:E.ty t=aj ti){b o:aG}{cs:az bg}(hl:cs.length=ti.ks.length)(h:∀j v,cs[j]? =aj v->w.cell? (ad b (o+j))=aj v):
  (wR t (.pointer (aj (ad b o)))).run P w= .ok (if ti.agg=ak then .agg cs.toArray else cs.headD .nilIface) w:=by
 obtain⟨inf,hi,fT,_,kH,_⟩:=hE.info t ti ht;obtain⟨d,hd,ha,hn⟩:=hE.desc t ti ht;cases s_:ti.agg with
 |true=>obtain⟨fs,rfl,_⟩:=ha s_;have hr:=wi (P:=P) w (b:=b) (o:=o) h;simp only[wR,tG,loadVar,isAgg,cg,run_underlying hd,cL,bB,if_true,sizeOf,typeInfo,program,mJ,hi,fT,<-hl,hr]
 |false=>
  have vT:∃k,ti.ks=[k]:=by rcases hn s_ with ⟨k,h,_⟩|⟨h,_⟩|⟨h,_⟩|⟨e,h,_⟩|⟨h,_⟩<;>exact⟨_,h⟩
  obtain⟨k,hk⟩:=vT;rw[hk]at hl;obtain⟨v,rfl⟩:=gD.1 hl;have hc:=h 0 v rfl;simp only[wT]at hc;have atS:(match d with| .struct _| .array _ _=>ak|_=>aq)=false:=by
   rcases hn s_ with ⟨k,_,rfl⟩|⟨_,rfl⟩|⟨_,rfl⟩|⟨e,_,rfl⟩|⟨_,h⟩
   ·rfl
   ·rfl
   ·rfl
   ·rfl
   ·cases d<;>simp_all
  have amk:(isAgg t).run P w= .ok aq w:=by simp only[isAgg,cg,run_underlying hd,bB];cases d<;>simp_all
  simp only[wR,tG,loadVar,cg,cL,bB,amk,dj,if_false,run_load,hc,List.headD]
theorem HY{E:Tab}(hE:dZ P E){t:aG}{ti:TI}(ht:E.ty t=aj ti){b o:aG}{v:bg}{cur:de bg}(hl:v.cells.size=ti.ks.length)(hb:nr w b cur)(hf:o+v.cells.size<=cur.size)(h1:∀u∈v.cells.toList,u.oneCell'=ak):
  (Ub t (.pointer (aj (ad b o))) v).run P w= .ok () (w.setRow b (dV cur o v.cells.toList)):=by obtain⟨inf,hi,fT,_⟩:=hE.info t ti ht;have hr:=mY (P:=P) w hb (o:=o) (vs:=v.cells.toList) (by simpa using hf) h1;simp only[Ub,tG,storeVar,cg,cL,bB,sizeOf,typeInfo,program,mJ,hi,fT,hl,ne_eq,not_true_eq_false,if_false,hr]
theorem NL{E:Tab}(hE:dZ P E){t:aG}{ti:TI}(ht:E.ty t=aj ti)(ho:JO ti.ks=ak):
  (Instr.alloc t ak (.tuple #[])).run P w= .ok (.pointer (aj (ad w.heap.size 0))) (w.alloc (.cells (ti.ks.map ik).toArray t)):=by obtain⟨inf,hi,fT,_,_,hz⟩:=hE.info t ti ht;obtain⟨z,Io,CG,_⟩:=hz ho;simp only[Instr.alloc,cg,zeroValue,typeInfo,program,mJ,hi,bB,cL,Io,newVar,newRow,newObj,CG];rfl
theorem Sj(t:aG)(v:bg):(Instr.box t v).run P w= .ok (.pointer (aj (ad w.heap.size 0))) (w.alloc (.cells v.cells t)):=by simp only[Instr.box,cg,newVar,newRow,newObj,mJ,bB,cL];rfl
theorem HU{E:Tab}(hE:dZ P E){t f off n:aG}(hf:E.fo t f=aj (off,n))(b o:aG):
  (T_ t (.pointer (aj (ad b o))) f).run P w= .ok (.pointer (aj (ad b (o+off)))) w:=by
 obtain⟨ti,ht,s_⟩:=hE.fo t f off n hf;obtain⟨d,hd,ha,_⟩:=hE.desc t ti ht;obtain⟨fs,rfl,Jw⟩:=ha s_;obtain⟨fd,h1,h2,h3,h4,_⟩:=Jw f off n hf;cases hq:P.info? fd.type with
 |none=>simp[hq]at h3
 |some inf=>
  have hs:inf.size=n:=by simpa [hq]using h3
  have h_:¬inf.size=0:=by omega
  simp only[T_,cg,run_underlying hd,bB,h1,tG,cL,fieldPlace,sizeOf,typeInfo,program,mJ,hq,bL h_,mF,Addr.nA,h2]
theorem oJ{E:Tab}(hE:dZ P E){t e:aG}{ti:TI}(ht:E.ty t=aj ti)(s_:ti.agg=aq)(hk:ti.ks=[.l e]):P.underlying t=aj (.slice e):=by obtain⟨d,hd,_,hn⟩:=hE.desc t ti ht;rcases hn s_ with ⟨k,h,_⟩|⟨h,_⟩|⟨h,_⟩|⟨e',h,rfl⟩|⟨h,_⟩<;>rw[hk]at h<;>simp_all
theorem HV{E:Tab}(hE:dZ P E){t e:aG}{te:TI}(hu:P.underlying t=aj (.slice e))(he:E.ty e=aj te)(b o n c:aG)(k:mI)(i:aA)(h0:0<=i)(h1:i<n):
  (Ua t (.slice (aj (ad b o)) n c) (.int k i)).run P w= .ok (.pointer (aj (ad b (o+i.toNat*te.ks.length)))) w:=by obtain⟨inf,hi,fT,_⟩:=hE.info e te he;simp only[Ua,asIntOf,cg,cL,bB,run_underlying hu,h0,h1,and_self,if_true,sizeOf,typeInfo,program,mJ,hi,fT,Addr.nA]
end
end Go.FG

namespace Go.FG
section
variable {P:cQ} {E:fB} {σ:St} {a:Act} {w:bF} {c:eK}
theorem lN(dA:eZ E σ a w c){x:dn}{v:SV}(h:(Fp x).val σ=aj v):iU E w c v (a.eval x)/\mh σ v:=by
 cases x with
 |tmp t=>
  simp only[Fp,Rd.Ad]at h;cases hc:σ (pU t)with
  |v x=>rw[hc]at h;obtain rfl:=aF h;have h1:=dA.ok t;have h2:=dA.kn t;simp only[slot,hc]at h1 h2;exact⟨h1,h2⟩
  |o x=>rw[hc]at h;simp at h;subst h;exact⟨trivial,λn hn=>by simp[cD]at hn⟩
  |jE=>rw[hc]at h;simp at h;subst h;exact⟨trivial,λn hn=>by simp[cD]at hn⟩
 |const v'=>
  obtain rfl:=aF h;refine⟨?_, ?_⟩
  ·show iU E w c (cst v') v';unfold cst;split;case h_3 x=>
    cases hd:e9 x.size 4611686018427387904 with
    |true=>exact⟨rfl,cC hd⟩
    |false=>exact trivial
   all_goals first|trivial|rfl
  ·unfold cst;intro n hn;split at hn;case h_3 x=>
    cases hd:e9 x.size 4611686018427387904 with
    |true=>simp[hd,cD,bI]at hn
    |false=>simp[hd,cD]at hn
   all_goals simp[cD,bI]at hn
 |global g=>simp[Fp]at h
 |func f=>obtain rfl:=aF h;exact⟨⟨#[],rfl,rfl,λq cs hq=>by simp at hq⟩,λn hn=>by simp[cD,bI]at hn⟩
theorem iI(dA:eZ E σ a w c){x:dn}{v:AV}(h:(qY x).val σ=aj v):ea E w c v (a.eval x)/\iS σ v:=by
 obtain⟨s,h1,h2⟩:=Rd.bind_some h;obtain⟨h3,h4⟩:=lN dA h1;split at h2
 ·obtain rfl:=aF h2;exact⟨h3,λn hn=>h4 n (by simpa [cD]using hn)⟩
 ·simp at h2
theorem pB(dA:eZ E σ a w c){x:dn}{k:mI}{n:aA}(h:(Bp x).val σ=aj (k,n)):a.eval x= .int k n:=by
 obtain⟨s,h1,h2⟩:=Rd.bind_some h;obtain⟨h3,_⟩:=iI dA h1;split at h2
 ·simp at h2;obtain⟨rfl,rfl⟩:=h2;exact h3
 ·simp at h2
theorem dp{nm:aG}{x:Obj}(h:(jl nm).val σ=aj x):σ (cW nm)= .o x:=by
 simp only[jl,Rd.Ad]at h;split at h
 ·rename_i y hy;simp at h;subst h;exact hy
 ·simp at h
theorem dP{t:aG}{ti:TI}(h:(rS E t).val σ=aj ti):E.ty t=aj ti:=by
 unfold rS at h;split at h
 ·simp at h;subst h;assumption
 ·simp at h
theorem j8{nm:aG}{u:Unit}(h:(fresh nm).val σ=aj u):σ (cW nm)= .jE/\nm<900000000:=by
 simp only[fresh,Rd.Ad]at h;split at h
 ·rename_i hy;obtain⟨h1,_⟩:=cE h;exact⟨hy,by have:=cC h1;omega⟩
 ·simp at h
def gA(P:cQ)(E:fB)(σ:St)(a:Act)(w:bF)(c:eK)(o:eV)(ws:az (aG×eu)):Prop:=
 ∀(K:Act->bF->Prop) (Q:Exit->Act->bF->Prop),
  (∀v w' c',Ok E (wr σ ws) w' c'->eZ E (wr σ ws) (a.put o.dst v) w' c'->nR σ c w (wr σ ws) c' w'->qA σ c c'->K (a.put o.dst v) w')->o.wp P a w K Q
theorem wB{o:eV}{v:bg}{w':bF}{K:Act->bF->Prop}{Q:Exit->Act->bF->Prop}(hr:(execOp a.eval o).run P w= .ok (.value v) w')(hK:K (a.put o.dst v) w'):o.wp P a w K Q:=by unfold MC;rw[hr];exact hK
theorem BU{o:eV}{w':bF}{K:Act->bF->Prop}{Q:Exit->Act->bF->Prop}(hr:(execOp a.eval o).run P w= .ok .skip w')(hK:K (a.put o.dst undef) w'):o.wp P a w K Q:=by unfold MC;rw[hr];exact hK
theorem jh.refl(σ:St)(c:eK):jh σ c c:=λ_ _=>⟨rfl,rfl⟩
theorem gj(b8:Ok E σ w c)(dA:eZ E σ a w c){o:eV}(hd:∀d,o.dst=aj d->d<a.tmps.size){s:SV}{v:bg}
  (hs:iU E w c s v) (hk:mh σ s) (hr:(execOp a.eval o).run P w= .ok (.value v) w):gA P E σ a w c o (dw o s):=by
 intro K Q hK;obtain⟨s1,s2,s3⟩:=rk σ o s;obtain⟨h1,h2⟩:=b8.slot s3;refine wB hr (hK v w c h1 ?_ h2 (jh.refl _ _).w);refine dA.change b8 h2 (jh.refl _ _) (λnm hn=>by rw[s3];exact hn) o v s1 (λd ho=>⟨hd d ho, ?_, ?_⟩)
 ·rw[s2 d ho];exact hs
 ·rw[s2 d ho];intro n hn;rw[s3];exact hk n hn
theorem A6(b8:Ok E σ w c)(dA:eZ E σ a w c){o:eV}(hd:∀d,o.dst=aj d->d<a.tmps.size){nm:aG}{ob:Obj}{s:SV}{v:bg}{w':bF}{p:Pl}{g:aG->aG->Pl}
  (hn:σ (cW nm)= .jE) (jD:nm<900000000)
  (mq:∀c':eK,c'.P nm=p->c'.G nm=g->(∀b,c.K b->c'.K b)->jh σ c c'->pk E w' c' nm ob)
  (py:∀c':eK,c'.P nm=p->c'.G nm=g->∀b,fa c' nm ob b->w.heap.size<=b)
  (Hi:∀xs,ob= .box xs->∀a∈xs,iS σ a)
  (wK:∀c':eK,c'.P nm=p->c'.G nm=g->iU E w' c' s v) (zw:∀n∈cD s,n=nm\/σ (cW n)≠ .jE)
  (hW:∀b,b<w.heap.size->w'.heap[b]? =w.heap[b]?) (fT:w.heap.size<=w'.heap.size) (Nd:w'.os=w.os) (U3:w'.tape=w.tape) (UY:w'.output=w.output)
  (hr:(execOp a.eval o).run P w= .ok (.value v) w'):gA P E σ a w c o ((cW nm, .o ob)::dw o s):=by
 intro K Q hK;let c':eK:=⟨λn=>if n=nm then p else c.P n,λn=>if n=nm then g else c.G n,c.K⟩
 have hP:c'.P nm=p:=bC rfl;have hG:c'.G nm=g:=bC rfl;have hA:jh σ c c':=λm hm=>by
  have:m≠nm:=by rintro rfl;rcases hm with h|h;exact h hn;omega
  exact⟨bL this,bL this⟩
 let σ1:=pf σ (cW nm) (.o ob);obtain⟨s1,s2,s3⟩:=rk σ1 o s;have key:∀m,wr σ1 (dw o s) (cW m)=if m=nm then .o ob else σ (cW m):=λm=>by rw[s3];exact pE _ _ _ _
 have h_:∀m,σ (cW m)≠ .jE->wr σ1 (dw o s) (cW m)≠ .jE:=λm hm=>by rw[key];split<;>simp_all
 have hh:=b8.change (σ':=wr σ1 (dw o s)) (w':=w') (c':=c') (λm=>m=nm) (λm hm=>by rw[key,bL hm]) h_ hA
  (λb hb _=>hW b hb) fT (λ_ h=>h) (λ_ h=> .inl h) (λb hb=>jb (b8.lt b hb) fT)
  (λm x hm ho=>by subst hm;rw[key,bC rfl]at ho;cases ho;exact mq c' hP hG (λ_ h=>h) hA)
  (λm x b hm ho hf=>by subst hm;rw[key,bC rfl]at ho;cases ho;have:=py c' hP hG b hf;exact⟨.inr this,λhk=>by have:=b8.lt b hk;omega⟩)
  (λm x m' x' b hm vS _ _ _ _=>by rw[hm,vS])
  (λm xs hm ho y hy n j9=>by subst hm;rw[key,bC rfl]at ho;cases ho;exact h_ n (Hi xs rfl y hy n j9)) Nd U3 UY
 refine wB hr (hK v w' c' hh.1 ?_ hh.2 hA.w);refine dA.change b8 hh.2 hA h_ o v (λn j9=>by rw[s1 n j9];exact iY _ _ _ _) (λd ho=>⟨hd d ho, ?_, ?_⟩)
 ·show iU E w' c' (slot (wr σ1 (dw o s)) d) v;rw[s2 d ho];exact wK c' hP hG
 ·show mh (wr σ1 (dw o s)) (slot (wr σ1 (dw o s)) d);rw[s2 d ho];intro n j9;rw[key];split
  ·simp
  ·rename_i h;exact(zw n j9).resolve_left h
theorem sA(b8:Ok E σ w c)(dA:eZ E σ a w c){o:eV}(hd:∀d,o.dst=aj d->d<a.tmps.size){nm:aG}{ob ob':Obj}{s:SV}{v:bg}{w':bF}
  (hn:σ (cW nm)= .o ob) (mq:pk E w' c nm ob') (py:∀b,fa c nm ob' b->fa c nm ob b)
  (Hi:∀xs,ob'= .box xs->∀a∈xs,iS σ a)
  (wK:iU E w' c s v) (zw:mh σ s)
  (hW:∀b,b<w.heap.size->¬fa c nm ob b->w'.heap[b]? =w.heap[b]?) (fT:w.heap.size<=w'.heap.size) (Nd:w'.os=w.os) (U3:w'.tape=w.tape) (UY:w'.output=w.output)
  (hr:(execOp a.eval o).run P w= .ok (.value v) w'\/((execOp a.eval o).run P w= .ok .skip w'/\v=undef)):gA P E σ a w c o ([(cW nm, .o ob')]++dw o s):=by
 intro K Q hK;let σ1:=pf σ (cW nm) (.o ob');obtain⟨s1,s2,s3⟩:=rk σ1 o s;have key:∀m,wr σ1 (dw o s) (cW m)=if m=nm then .o ob' else σ (cW m):=λm=>by rw[s3];exact pE _ _ _ _
 have h_:∀m,σ (cW m)≠ .jE->wr σ1 (dw o s) (cW m)≠ .jE:=λm hm=>by rw[key];split<;>simp_all
 have gO:∀b,fa c nm ob b->jH (λm=>m=nm) σ c b:=λb hb=>⟨nm,ob,rfl,hn,hb⟩
 have hh:=b8.change (σ':=wr σ1 (dw o s)) (w':=w') (c':=c) (λm=>m=nm) (λm hm=>by rw[key,bL hm]) h_ (jh.refl _ _)
  (λb hb UX=>hW b hb (λhf=>UX (gO b hf))) fT (λ_ h=>h) (λ_ h=> .inl h) (λb hb=>jb (b8.lt b hb) fT)
  (λm x hm ho=>by subst hm;rw[key,bC rfl]at ho;cases ho;exact mq)
  (λm x b hm ho hf=>by subst hm;rw[key,bC rfl]at ho;cases ho;exact⟨.inl (gO b (py b hf)),b8.kk _ _ b hn (py b hf)⟩)
  (λm x m' x' b hm vS _ _ _ _=>by rw[hm,vS])
  (λm xs hm ho y hy n j9=>by subst hm;rw[key,bC rfl]at ho;cases ho;exact h_ n (Hi xs rfl y hy n j9)) Nd U3 UY
 have afq:eZ E (wr σ1 (dw o s)) (a.put o.dst v) w' c:=by
  refine dA.change b8 hh.2 (jh.refl _ _) h_ o v (λn j9=>by rw[s1 n j9];exact iY _ _ _ _) (λd ho=>⟨hd d ho, ?_, ?_⟩)
  ·rw[s2 d ho];exact wK
  ·rw[s2 d ho];intro n j9;rw[key];split
   ·simp
   ·exact zw n j9
 rcases hr with hr|⟨hr,rfl⟩
 ·exact wB hr (hK v w' c hh.1 afq hh.2 (jh.refl _ _).w)
 ·exact BU hr (hK undef w' c hh.1 afq hh.2 (jh.refl _ _).w)
end
end Go.FG

namespace Go.FG
theorem aa1:∀{x y:Ck},ckB x y=ak->x=y:=by intro x y h;cases x<;>cases y<;>simp[ckB]at h<;>first|rfl|(subst h;rfl)|(have:=aW h;subst this;rfl)
theorem qS:∀{a b:az Ck},pQ a b=ak->a=b
 |[],[],_=>rfl
 |[],_::_,h=>by simp[pQ]at h
 |_::_,[],h=>by simp[pQ]at h
 |x::l,y::r,h=>by
  simp only[pQ,aK]at h;rw[aa1 h.1,qS h.2]
structure al5 (E:fB) (w:bF) (K:aG->Prop) (b o n c e:aG) (xs:aX) (ti:TI) (U:aG->aG->bg):Prop where
 nn:n=xs.length
 ty:E.ty e=aj ti
 cap:xs.length<=c
 mx:c<=maxLen
 kb:K b
 sh:∀y∈xs,y.map CV.kd=ti.ks
 cell:∀i j y x,xs[i]? =aj y->y[j]? =aj x->w.cell? (ad b (o+i*ti.ks.length+j))=aj (U i j)
 inn:∀i j y x,xs[i]? =aj y->y[j]? =aj x->cY E w K (U i j) x
theorem cY.Hy{E:fB}{w:bF}{K:aG->Prop}{b o n c e:aG}{xs:aX}(h:cY E w K (.slice (aj (ad b o)) n c) (.l e xs))(hn:0<xs.length):∃ti U,al5 E w K b o n c e xs ti U:=by
 generalize hv:Value.slice (aj (ad b o)) n c=v at h;generalize hx:CV.l e xs=x at h;cases h with
 |i=>cases hx
 |b=>cases hx
 |s=>cases hx
 |nl=>cases hx;simp at hn
 |l e xs b o c ti U ht hc hm hK hs hcell gO=>cases hx;cases hv;exact⟨ti,U,rfl,ht,hc,hm,hK,hs,hcell,gO⟩
theorem Ja{E:fB}{w:bF}{c:eK}{u:bg}{x:CV}(h:cY E w c.K u x):ea E w c (dec x.kd x) u:=by
 cases x with
 |i k n=>cases h;rfl
 |b=>cases h;rfl
 |s=>cases h with|s _ ho=>exact⟨rfl,ho⟩
 |l e xs=>exact h
theorem LR{E:fB}{w:bF}{c:eK}{u:bg}{x:CV}(h:cY E w c.K u x):ea E w c (Wv x) u:=by
 cases x with
 |i k n=>cases h;rfl
 |b=>cases h;rfl
 |s=>cases h with|s _ ho=>exact⟨rfl,ho⟩
 |l e xs=>exact h
theorem oI{E:fB}{w:bF}{c:eK}{u:bg}{x:CV}(hl:tc x=aq)(h:Sc u x):ea E w c (dec x.kd x) u:=by
 cases x with
 |i=>exact h.1
 |b=>exact h.1
 |s=>exact h
 |l=>simp[tc]at hl
theorem Np(k:Ck)(x:CV):bI (dec k x)=[]:=by cases k<;>rfl
theorem Bi(x:CV):bI (Wv x)=[]:=by cases x<;>rfl
theorem lh(xs:aX)(i:aG):∀(ks:az Ck) (j q:aG),(tT xs i j ks)[q]? =(ks[q]?).map λk=>dec k (aw xs i (j+q)):=by
 intro ks;induction ks with
 |nil=>intro j q;simp[tT]
 |cons k ks ih=>
  intro j q;cases q with
  |zero=>simp[tT]
  |succ q=>simp only[tT,dF,ih];congr 2;funext k;congr 2;omega
theorem GW(nm:aG)(xs:aX)(i:aG):∀(ks:az Ck) (j q:aG),(zq nm xs i j ks)[q]? =(ks[q]?).map λk=>match k with| .l _=>AV.inn nm i (j+q)|k=>dec k (aw xs i (j+q)):=by
 intro ks;induction ks with
 |nil=>intro j q;simp[zq]
 |cons k ks ih=>
  intro j q;cases q with
  |zero=>cases k<;>simp[zq]
  |succ q=>
   have e:j+1+q=j+(q+1):=by omega
   cases k<;>simp only[zq,dF,ih,e]
theorem e7{xs:aX}{i j:aG}{y:az CV}{x:CV}(hi:xs[i]? =aj y)(hj:y[j]? =aj x):aw xs i j=x:=by simp[aw,jq,hi,hj]
theorem kg(xs:aX)(i:aG):∀(ks:az Ck) (j:aG),(tT xs i j ks).length=ks.length:=by
 intro ks;induction ks with
 |nil=>intro j;rfl
 |cons k ks ih=>intro j;simp[tT,ih]
theorem yX(nm:aG)(xs:aX)(i:aG):∀(ks:az Ck) (j:aG),(zq nm xs i j ks).length=ks.length:=by
 intro ks;induction ks with
 |nil=>intro j;rfl
 |cons k ks ih=>intro j;cases k<;>simp[zq,ih]
theorem qq{ks ks2:az Ck}{j:aG}{y:az CV}(hy:y.map CV.kd=ks)(h:(ks.drop j).take ks2.length=ks2){q:aG}(hq:q<ks2.length):∃x,y[j+q]? =aj x/\ks2[q]? =aj x.kd:=by
 have h1:ks2[q]? =ks[j+q]? :=by rw[<-h,dR,bC hq,dJ]
 rw[<-hy,bE]at h1;cases hx:y[j+q]? with
 |none=>rw[hx]at h1;simp at h1;omega
 |some x=>exact⟨x,rfl,by rw[h1,hx];rfl⟩
section
variable {P:cQ} {E:fB} {σ:St} {a:Act} {w:bF} {c:eK}
theorem tw{p:Pl}{G:aG->aG->Pl}{xs:aX}{ks:az Ck}{i j e2:aG}(fS:iT w p xs (λi j u x=>if ak=ak then XC E w G i j u x else cY E w c.K u x))(mc:∀y∈xs,y.map CV.kd=ks)(hi:i<p.n)(hk:ks[j]? =aj (.l e2)):
  ∃ys y,xs[i]? =aj y/\y[j]? =aj (.l e2 ys)/\∃u,XC E w G i j u (.l e2 ys):=by
 have lE:i<xs.length:=by rw[<-fS.n];exact hi
 have hy:xs[i]? =aj xs[i]:=by simp[lE]
 have h1:=mc xs[i] (bD lE);rw[<-h1,bE]at hk;cases hx:xs[i][j]? with
 |none=>rw[hx]at hk;cases hk
 |some x=>
  rw[hx]at hk;cases x with
  |l e ys=>
   cases hk;have jd:p.nil=false:=by
    cases hn:p.nil with
    |false=>rfl
    |true=>have:=(fS.nil hn).1;subst this;simp at lE
   obtain⟨vals,_,_,_,_,nh⟩:=fS.mem jd;obtain⟨u,_,hr⟩:=nh i _ j _ hy hx;rw[bC rfl]at hr;exact⟨ys,_,hy,hx,u,hr⟩
  |i=>cases hk
  |b=>cases hk
  |s=>cases hk
theorem gV{ks:az Ck}(h:plain ks=ak){y:az CV}(hy:y.map CV.kd=ks){j:aG}{x:CV}(hx:y[j]? =aj x):tc x=false:=by
 have h1:x.kd∈ks:=by rw[<-hy];exact cG.2 ⟨x,aQ hx,rfl⟩
 have h2:=bn.1 h _ h1;cases x<;>simp_all [CV.kd,tc]
structure PM (E:fB) (σ:St) (w:bF) (c:eK) (ti:TI) (v:bg) (xs:az AV):Prop where
 ex:∃(b o:aG) (cs:az bg),v= .pointer (aj (ad b o))/\cs.length=ti.ks.length/\(∀(j:aG) (u:bg),cs[j]? =aj u->w.cell? (ad b (o+j))=aj u)/\
  xs.length=ti.ks.length/\(∀(j:aG) (x:AV),xs[j]? =aj x->∃u:bg,cs[j]? =aj u/\ea E w c x u)
 kn:∀x∈xs,iS σ x
theorem lT{ti:TI}{b o:aG}{xs:az AV}(hl:xs.length=ti.ks.length)(h:∀(j:aG) (x:AV),xs[j]? =aj x->∃u:bg,w.cell? (ad b (o+j))=aj u/\ea E w c x u)(hk:∀x∈xs,iS σ x):
  PM E σ w c ti (.pointer (aj (ad b o))) xs:=by
 refine⟨⟨b,o,(cM xs.length).map (λj=>(w.cell? (ad b (o+j))).getD undef),rfl,by simp[hl], ?_,hl, ?_⟩,hk⟩
 ·intro j u hu;simp only[bE]at hu;by_cases hj:j<xs.length
  ·obtain⟨u',rE,_⟩:=h j xs[j] (by simp[hj]);simp only[hj,uD,iQ,rE,wV,jf]at hu;rw[rE,hu]
  ·simp[kB (l:=cM xs.length) (by simpa using hj)]at hu
 ·intro j x hx;obtain⟨u,hu,hv⟩:=h j x hx;refine⟨u, ?_,hv⟩
  have hj:j<xs.length:=(aU.1 hx).1;simp[hj,hu]
theorem Rc(b8:Ok E σ w c){ti:TI}{p:AV}{v:bg}{xs:az AV}(hp:ea E w c p v)(h:(sD E ti p).val σ=aj xs):PM E σ w c ti v xs:=by
 have Wt:∀(n:aG) (k:Ck) (x:CV),n∈bI (dec k x)->σ (cW n)≠ .jE:=λn k x hn=>by rw[Np]at hn;simp at hn
 cases p with
 |bp nm j=>
  obtain⟨o,ho,h2⟩:=Rd.bind_some h;have mq:=b8.obj nm o (dp ho);obtain rfl:v=_:=hp;cases o with
  |box ys=>
   obtain⟨hle,h3⟩:=cE h2;have hle:=cC hle;obtain rfl:=aF h3;obtain⟨vals,hb,hs,hc⟩:=mq;refine lT (by simp;omega) (λq x hx=> ?_) (λx hx=>b8.kn nm ys (dp ho) x (kC (kD hx)));rw[dR]at hx;split at hx
   ·rw[dJ]at hx;obtain⟨u,hu,hv⟩:=hc (j+q) x hx;exact⟨u,(hb.cell (j+q)).trans hu,hv⟩
   ·cases hx
  |nC cs=>
   obtain⟨hle,h3⟩:=cE h2;have hle:=cC hle;obtain rfl:=aF h3;refine lT (by simp;omega) (λq x hx=> ?_) (λx hx=> ?_)
   ·rw[bE,dR]at hx;split at hx
    ·rw[dJ]at hx;cases hy:cs[j+q]? with
     |none=>rw[hy]at hx;cases hx
     |some y=>rw[hy]at hx;cases hx;obtain⟨u,hu,hv⟩:=mq.2 (j+q) y hy;exact⟨u,hu,LR hv⟩
    ·cases hx
   ·obtain⟨y,_,rfl⟩:=cG.1 hx;intro n hn;rw[Bi]at hn;simp at hn
  |row=>simp at h2
  |fE=>simp at h2
  |dead=>simp at h2
 |fp cs j=>
  obtain⟨hle,h3⟩:=cE h;have hle:=cC hle;obtain rfl:=aF h3;obtain⟨b,rfl,hb⟩:=hp;refine lT (by simp;omega) (λq x hx=> ?_) (λx hx=> ?_)
  ·rw[bE,dR]at hx;split at hx
   ·rw[dJ]at hx;cases hy:cs[j+q]? with
    |none=>rw[hy]at hx;cases hx
    |some y=>rw[hy]at hx;cases hx;obtain⟨u,hu,hv⟩:=hb.2 (j+q) y hy;exact⟨u,hu,LR hv⟩
   ·cases hx
  ·obtain⟨y,_,rfl⟩:=cG.1 hx;intro n hn;rw[Bi]at hn;simp at hn
 |sp e ys i j=>
  obtain⟨te,ht,h2⟩:=Rd.bind_some h;have ht:=dP ht;obtain⟨hk,h3⟩:=cE h2;have hk:=qS hk;obtain rfl:=aF h3;obtain⟨b,o,cp,ti2,hh,hi,E8,rfl⟩:=hp;obtain rfl:te=ti2:=aF (ht.symm.trans E8);refine lT (kg _ _ _ _) (λq x hx=> ?_) (λx hx=> ?_)
  ·rw[lh]at hx;obtain⟨ti3,U,hL⟩:=hh.Hy (by omega);obtain rfl:te=ti3:=aF (ht.symm.trans hL.ty);have hq:q<ti.ks.length:=by
    cases hq:ti.ks[q]? with
    |none=>rw[hq]at hx;cases hx
    |some k=>exact(aU.1 hq).1
   have hy:ys[i]? =aj ys[i]:=by simp[hi]
   obtain⟨z,hz,uU⟩:=qq (hL.sh ys[i] (bD hi)) hk hq;rw[uU]at hx;cases hx;rw[e7 hy hz];exact⟨U i (j+q),by have:=hL.cell i (j+q) _ z hy hz;rwa[show o+i*te.ks.length+j+q=o+i*te.ks.length+(j+q)by omega],Ja (hL.inn i (j+q) _ z hy hz)⟩
  ·obtain⟨q,hq⟩:=bZ hx;rw[lh]at hq;cases uU:ti.ks[q]? with
   |none=>rw[uU]at hq;cases hq
   |some k=>rw[uU]at hq;cases hq;intro n hn;exact Wt n _ _ hn
 |rp nm i j=>
  obtain⟨o,ho,h2⟩:=Rd.bind_some h;have ho:=dp ho;have mq:=b8.obj nm o ho;obtain⟨hi,rfl⟩:=hp;cases o with
  |row e ex ys=>
   obtain⟨te,ht,h2⟩:=Rd.bind_some h2;have ht:=dP ht;obtain⟨hk,h3⟩:=cE h2;have hk:=qS hk;have h3:(ex=ak/\plain ti.ks=ak/\xs=tT ys i j ti.ks)\/((ex=aq\/xX nm=aq)/\xs=bif ex then zq nm ys i j ti.ks else tT ys i j ti.ks):=by
    cases hF:(ex&&xX nm)with
    |true=>rw[hF,ay]at h3;obtain⟨rD,h3⟩:=cE h3;rw[aK]at hF;exact .inl ⟨hF.1,rD,(aF h3).symm⟩
    |false=>
     rw[hF,aC]at h3;refine .inr ⟨?_,(aF h3).symm⟩;cases ex with
     |false=>exact .inl rfl
     |true=>exact .inr (by simpa using hF)
   obtain⟨⟨ti2,E8,fT,mc⟩,fS,_⟩:=mq;obtain rfl:te=ti2:=aF (ht.symm.trans E8);have jd:(c.P nm).nil=false:=by
    cases hn:(c.P nm).nil with
    |false=>rfl
    |true=>have:=(fS.nil hn).1;subst this;rw[fS.n]at hi;simp at hi
   obtain⟨vals,hb,QF,_,nD,nh⟩:=fS.mem jd;have lE:i<ys.length:=by rw[<-fS.n];exact hi
   have hy:ys[i]? =aj ys[i]:=by simp[lE]
   rcases h3 with ⟨rfl,rD,rfl⟩|h3
   ·refine lT (kg _ _ _ _) (λq x hx=> ?_) (λx hx=> ?_)
    ·have hq:q<ti.ks.length:=by have:=(aU.1 hx).1;simpa [kg]using this
     obtain⟨z,hz,uU⟩:=qq (mc ys[i] (bD lE)) hk hq;obtain⟨u,hu,hr⟩:=nh i _ (j+q) z hy hz;rw[bC rfl]at hr;rw[lh,uU]at hx;cases hx;refine⟨u, ?_, ?_⟩
     ·rw[hb.cell];rw[<-hu];congr 1;omega
     ·have hzk:=bn.1 rD z.kd (aQ uU);show ea E w c (dec z.kd (aw ys i (j+q))) u;rw[e7 hy hz];cases z with
      |l e2 zs=>cases hzk
      |i k n=>exact oI rfl hr
      |b t=>exact oI rfl hr
      |s t=>exact oI rfl hr
    ·obtain⟨q,hq⟩:=bZ hx;intro n hn;rw[lh]at hq;cases uU:ti.ks[q]? with
     |none=>rw[uU]at hq;cases hq
     |some k=>rw[uU]at hq;cases hq;exact Wt n _ _ hn
   obtain⟨hFn,rfl⟩:=h3;refine lT (by cases ex<;>simp[kg,yX]) (λq x hx=> ?_) (λx hx=> ?_)
   ·have hq:q<ti.ks.length:=by have:=(aU.1 hx).1;cases ex<;>simpa [kg,yX]using this
    obtain⟨z,hz,uU⟩:=qq (mc ys[i] (bD lE)) hk hq;obtain⟨u,hu,hr⟩:=nh i _ (j+q) z hy hz;refine⟨u, ?_, ?_⟩
    ·rw[hb.cell];rw[<-hu];congr 1;omega
    ·cases ex with
     |false=>rw[bL (by simp)]at hr;have hx:(tT ys i j ti.ks)[q]? =aj x:=hx;rw[lh,uU]at hx;cases hx;rw[e7 hy hz];exact Ja hr
     |true=>
      rw[bC rfl]at hr;have hx:(zq nm ys i j ti.ks)[q]? =aj x:=hx;rw[GW,uU]at hx;cases z with
      |l e2 zs=>cases hx;exact⟨⟨hi,hr.1⟩,hFn.resolve_left (by simp)⟩
      |i k n=>cases hx;rw[e7 hy hz];exact oI rfl hr
      |b t=>cases hx;rw[e7 hy hz];exact oI rfl hr
      |s t=>cases hx;rw[e7 hy hz];exact oI rfl hr
   ·obtain⟨q,hq⟩:=bZ hx;intro n hn;cases ex with
    |false=>
     have hq:(tT ys i j ti.ks)[q]? =aj x:=hq;rw[lh]at hq;cases uU:ti.ks[q]? with
     |none=>rw[uU]at hq;cases hq
     |some k=>rw[uU]at hq;cases hq;exact Wt n _ _ hn
    |true=>
     have hq:(zq nm ys i j ti.ks)[q]? =aj x:=hq;rw[GW]at hq;cases uU:ti.ks[q]? with
     |none=>rw[uU]at hq;cases hq
     |some k=>
      rw[uU]at hq;cases k with
      |l e2=>cases hq;simp[bI]at hn;subst hn;rw[ho];simp
      |i=>cases hq;exact Wt n _ _ hn
      |b=>cases hq;exact Wt n _ _ hn
      |s=>cases hq;exact Wt n _ _ hn
      |o=>cases hq;exact Wt n _ _ hn
  |fE e ys=>
   obtain⟨te,ht,h2⟩:=Rd.bind_some h2;have ht:=dP ht;obtain⟨hk,h3⟩:=cE h2;have hk:=qS hk;obtain rfl:=aF h3;obtain⟨hh,hn,ti2,E8,fT⟩:=mq;obtain rfl:te=ti2:=aF (ht.symm.trans E8);have lE:i<ys.length:=by rw[<-hn];exact hi
   have hy:ys[i]? =aj ys[i]:=by simp[lE]
   have jd:(c.P nm).nil=false:=by
    cases hq:(c.P nm).nil with
    |false=>rfl
    |true=>unfold lj at hh;rw[bC hq]at hh;cases hh;simp at lE
   unfold lj at hh;rw[bL (by simp[jd]),hn]at hh;refine lT (kg _ _ _ _) (λq x hx=> ?_) (λx hx=> ?_)
   ·rw[lh]at hx;obtain⟨ti3,U,hL⟩:=hh.Hy (by omega);obtain rfl:te=ti3:=aF (ht.symm.trans hL.ty);have hq:q<ti.ks.length:=by
     cases hq:ti.ks[q]? with
     |none=>rw[hq]at hx;cases hx
     |some k=>exact(aU.1 hq).1
    obtain⟨z,hz,uU⟩:=qq (hL.sh ys[i] (bD lE)) hk hq;rw[uU]at hx;cases hx;rw[e7 hy hz];exact⟨U i (j+q),by have:=hL.cell i (j+q) _ z hy hz;rw[<-this];congr 2;rw[fT];omega,Ja (hL.inn i (j+q) _ z hy hz)⟩
   ·obtain⟨q,hq⟩:=bZ hx;rw[lh]at hq;cases uU:ti.ks[q]? with
    |none=>rw[uU]at hq;cases hq
    |some k=>rw[uU]at hq;cases hq;intro n hn;exact Wt n _ _ hn
  |box=>simp at h2
  |nC=>simp at h2
  |dead=>simp at h2
 |ip nm i j i2 j2=>
  obtain⟨o,ho,h2⟩:=Rd.bind_some h;have ho:=dp ho;have mq:=b8.obj nm o ho;obtain⟨⟨lL,hi,rfl⟩,hFp⟩:=hp;cases o with
  |row e ex ys=>
   cases ex with
   |false=>simp at h2
   |true=>
    obtain⟨te,ht,h2⟩:=Rd.bind_some h2;have ht:=dP ht;split at h2
    ·rename_i e2 zv;obtain⟨t2,E8,h2⟩:=Rd.bind_some h2;have E8:=dP E8;obtain⟨hk,h3⟩:=cE h2;have hk:=qS hk;obtain rfl:=aF h3;obtain⟨⟨tj,htj,fT,mc⟩,fS,_⟩:=mq;obtain rfl:te=tj:=aF (ht.symm.trans htj);obtain⟨zs,y,hy,hyj,uu,_,tk,E_,rD,JB,CD,n9⟩:=tw (c:=c) fS mc lL zv;obtain rfl:t2=tk:=aF (E8.symm.trans E_);rw[e7 hy hyj];refine lT (kg _ _ _ _) (λq x hx=> ?_) (λx hx=> ?_)
     ·rw[lh]at hx;have hq:q<ti.ks.length:=by
       cases hq:ti.ks[q]? with
       |none=>rw[hq]at hx;cases hx
       |some k=>exact(aU.1 hq).1
      have E4:i2<zs.length:=by rw[<-n9.n];exact hi
      have Ba:(c.G nm i j).nil=false:=by
       cases hn:(c.G nm i j).nil with
       |false=>rfl
       |true=>have:=(n9.nil hn).1;subst this;simp at E4
      obtain⟨vals,hb,_,_,_,nh⟩:=n9.mem Ba;have hzi:zs[i2]? =aj zs[i2]:=by simp[E4]
      obtain⟨z,hz,uU⟩:=qq (CD zs[i2] (bD E4)) hk hq;obtain⟨u,hu,hr⟩:=nh i2 _ (j2+q) z hzi hz;rw[uU]at hx;cases hx;refine⟨u, ?_, ?_⟩
      ·rw[hb.cell,<-hu];congr 1;omega
      ·show ea E w c (dec z.kd (aw zs i2 (j2+q))) u;rw[e7 hzi hz];exact oI (gV rD (CD _ (bD E4)) hz) hr
     ·obtain⟨q,hq⟩:=bZ hx;rw[lh]at hq;cases uU:ti.ks[q]? with
      |none=>rw[uU]at hq;cases hq
      |some k=>rw[uU]at hq;cases hq;intro n hn;exact Wt n _ _ hn
    ·simp at h2
  |fE=>simp at h2
  |box=>simp at h2
  |nC=>simp at h2
  |dead=>simp at h2
 |i=>simp[sD]at h
 |b=>simp[sD]at h
 |s=>simp[sD]at h
 |sh=>simp[sD]at h
 |nl=>simp[sD]at h
 |own=>simp[sD]at h
 |vw=>simp[sD]at h
 |inn=>simp[sD]at h
 |fn=>simp[sD]at h
end
end Go.FG

namespace Go.FG
section
variable {P:cQ} {E:fB} {σ:St} {a:Act} {w:bF} {c:eK} {o:eV} {nm:aG} {e:rX}
theorem iE{s:Sem bg}{v:bg}{w':bF}(hr:s.run P w= .ok v w'):(do pure (Next.value (<-s)):Sem Next).run P w= .ok (.value v) w':=by simp only[cg,hr,bB,cL]
theorem fL(b8:Ok E σ w c)(dA:eZ E σ a w c)(hd:∀d,o.dst=aj d->d<a.tmps.size){s:SV}{v:bg}(h:(val o s).val σ=aj e)(hs:iU E w c s v)(hk:mh σ s)(hr:(execOp a.eval o).run P w= .ok (.value v) w):gA P E σ a w c o e.ws:=by obtain rfl:=aF h;exact gj b8 dA hd hs hk hr
theorem DN(b8:Ok E σ w c)(dA:eZ E σ a w c)(hd:∀d,o.dst=aj d->d<a.tmps.size){b:aY}{x:AV}{v:bg}(h:(Kj o b x).val σ=aj e)(hc:e.cond=ak)(hs:b=ak->ea E w c x v)(hk:iS σ x)(hr:b=ak->(execOp a.eval o).run P w= .ok (.value v) w):gA P E σ a w c o e.ws:=by obtain rfl:=aF h;have hc:b=true:=hc;exact gj b8 dA hd (hs hc) (λn hn=>hk n (by simpa [cD]using hn)) (hr hc)
theorem td{σ:St}{x:AV}(h:bI x=[]):iS σ x:=λn hn=>by rw[h]at hn;simp at hn
theorem LV(b8:Ok E σ w c)(dA:eZ E σ a w c)(hd:∀d,o.dst=aj d->d<a.tmps.size){x:dn}(ho:o.op= .move x\/o.op= .assign x)(h:(lG E nm o).val σ=aj e):gA P E σ a w c o e.ws:=by
 have h':((Fp x).bind λv=>val o v).val σ=aj e:=by rcases ho with ho|ho<;>simpa [lG,ho]using h
 obtain⟨v,h1,h2⟩:=Rd.bind_some h';obtain⟨hv,hk⟩:=lN dA h1;refine fL b8 dA hd h2 hv hk ?_;rcases ho with ho|ho<;>(unfold execOp;rw[ho];rfl)
theorem HK(b8:Ok E σ w c)(dA:eZ E σ a w c)(hd:∀d,o.dst=aj d->d<a.tmps.size){x:dn}(ho:o.op= .nilCheck x)(h:(lG E nm o).val σ=aj e):gA P E σ a w c o e.ws:=by
 simp only[lG,ho]at h;obtain⟨p,h1,h⟩:=Rd.bind_some h;obtain⟨ex,kx⟩:=iI dA h1;cases p with
 |bp n j=>have s9:a.eval x= .pointer (aj (ad (c.P n).blk j)):=ex;refine fL b8 dA hd h (v:=a.eval x) ex (λn hn=>kx n (by simpa [cD]using hn)) ?_;unfold execOp;rw[ho];simp only[s9];rfl
 |rp n i j=>have s9:a.eval x= .pointer (aj (ad (c.P n).blk ((c.P n).off+i*(c.P n).sz+j))):=ex.2;refine fL b8 dA hd h (v:=a.eval x) ex (λn hn=>kx n (by simpa [cD]using hn)) ?_;unfold execOp;rw[ho];simp only[s9];rfl
 |_=>cases h
theorem Wy(b8:Ok E σ w c)(dA:eZ E σ a w c)(hd:∀d,o.dst=aj d->d<a.tmps.size){x y z:dn}(ho:o.op= .pick x y z)(h:(lG E nm o).val σ=aj e)(hc:e.cond=ak):gA P E σ a w c o e.ws:=by
 simp only[lG,ho]at h;obtain⟨cx,h1,h⟩:=Rd.bind_some h;obtain⟨vy,h2,h⟩:=Rd.bind_some h;obtain⟨vz,h3,h⟩:=Rd.bind_some h;obtain⟨ex,kx⟩:=iI dA h1;obtain⟨ey,ky⟩:=lN dA h2;obtain⟨ez,kz⟩:=lN dA h3;have run:∀b,a.eval x= .bool b->(execOp a.eval o).run P w= .ok (.value (if b then a.eval y else a.eval z)) w:=by intro b hb;unfold execOp;rw[ho];simp only[hb,asBool,cg,cL,bB]
 cases cx with
 |b b=>
  replace ex:a.eval x= .bool b:=ex;have both:∀p q,vy= .v aq [.b p]->vz= .v aq [.b q]->gA P E σ a w c o e.ws:=by
   rintro p q rfl rfl;refine fL b8 dA hd h (v:=if b then a.eval y else a.eval z) ?_ (λn hn=>by simp[cD,bI]at hn) (run b ex);cases b
   ·exact ez
   ·exact ey
  have lft:vy= .jc []->gA P E σ a w c o e.ws:=by
   rintro rfl;replace h:(Rd.ret (⟨!b,dw o vz⟩:rX)).val σ=aj e:=by cases vz<;>exact h
   obtain rfl:=aF h;have hb:b=false:=by simpa using hc
   subst hb;exact gj b8 dA hd ez kz (run aq ex)
  have rgt:vz= .jc []->vy≠ .jc []->gA P E σ a w c o e.ws:=by
   rintro rfl h_;replace h:(Rd.ret (⟨b,dw o vy⟩:rX)).val σ=aj e:=by
    cases vy with
    |un=>exact h
    |jc l=>cases l with
     |nil=>exact cq rfl h_
     |cons=>exact h
    |v g xs=>cases g<;>(rcases xs with _|⟨⟨⟩,_|⟨_,_⟩⟩<;>exact h)
   obtain rfl:=aF h;have hb:b=true:=hc;subst hb;exact gj b8 dA hd ey ky (run ak ex)
  cases vy with
  |un=>cases vz with
   |un=>simp at h
   |jc l=>cases l with
    |nil=>exact rgt rfl (by simp)
    |cons=>simp at h
   |v=>simp at h
  |jc l=>cases l with
   |nil=>exact lft rfl
   |cons=>cases vz with
    |un=>simp at h
    |jc l2=>cases l2 with
     |nil=>exact rgt rfl (by simp)
     |cons=>simp at h
    |v=>simp at h
  |v g xs=>cases vz with
   |un=>simp at h
   |jc l2=>cases l2 with
    |nil=>exact rgt rfl (by simp)
    |cons=>simp at h
   |v g2 ys=>cases g<;>cases g2<;>rcases xs with _|⟨⟨⟩,_|⟨_,_⟩⟩<;>rcases ys with _|⟨⟨⟩,_|⟨_,_⟩⟩<;>first|(simp at h;done)|exact both _ _ rfl rfl
 |i=>simp at h
 |s=>simp at h
 |sh=>simp at h
 |nl=>simp at h
 |own=>simp at h
 |vw=>simp at h
 |bp=>simp at h
 |rp=>simp at h
 |sp=>simp at h
 |inn=>simp at h
 |ip=>simp at h
 |fn=>simp at h
 |fp=>simp at h
theorem Wx(hE:dZ P E)(b8:Ok E σ w c)(dA:eZ E σ a w c)(hd:∀d,o.dst=aj d->d<a.tmps.size){t:aG}{p:dn}(ho:o.op= .load t p)(h:(lG E nm o).val σ=aj e):gA P E σ a w c o e.ws:=by
 simp only[lG,ho]at h;obtain⟨ti,h1,h⟩:=Rd.bind_some h;obtain⟨pv,h2,h⟩:=Rd.bind_some h;obtain⟨xs,h3,h⟩:=Rd.bind_some h;have ht:=dP h1;obtain⟨ep,_⟩:=iI dA h2;obtain⟨⟨b,of,cs,hv,hl,hcell,hlen,TQ⟩,Hi⟩:=Rc b8 ep h3;have hr:=BJ (P:=P) w hE ht hl hcell;refine fL b8 dA hd h (v:=if ti.agg=ak then .agg cs.toArray else cs.headD .nilIface) ?_ (λn hn=>by obtain⟨x,hx,hn⟩:=bG.1 hn;exact Hi x hx n hn) ?_
 ·show pO E w c ti.agg xs _;cases s_:ti.agg with
  |true=>rw[bC rfl];exact⟨cs.toArray,rfl,by simp[hl,hlen],λj x hj=>by obtain⟨u,hu,hx⟩:=TQ j x hj;exact⟨u,by simpa using hu,hx⟩⟩
  |false=>
   obtain⟨d,_,_,hn⟩:=hE.desc t ti ht;have h1:ti.ks.length=1:=by rcases hn s_ with ⟨k,h,_⟩|⟨h,_⟩|⟨h,_⟩|⟨e',h,_⟩|⟨h,_⟩<;>simp[h]
   obtain⟨x,rfl⟩:=gD.1 (hlen.trans h1);obtain⟨v,rfl⟩:=gD.1 (hl.trans h1);obtain⟨u,hu,hx⟩:=TQ 0 x rfl;simp at hu;subst hu;simpa [pO]using hx
 ·unfold execOp;rw[ho];exact iE (by rw[hv];exact hr)
theorem Fl(hE:dZ P E)(b8:Ok E σ w c)(dA:eZ E σ a w c)(hd:∀d,o.dst=aj d->d<a.tmps.size){t f:aG}{p:dn}(ho:o.op= .fieldAddr t p f)(h:(lG E nm o).val σ=aj e):gA P E σ a w c o e.ws:=by
 simp only[lG,ho]at h;obtain⟨pv,h1,h⟩:=Rd.bind_some h;obtain⟨q,h2,h⟩:=Rd.bind_some h;obtain⟨ep,kp⟩:=iI dA h1;unfold Qj at h2;cases hf:E.fo t f with
 |none=>rw[hf]at h2;simp at h2
 |some r=>
  obtain⟨off,n⟩:=r;rw[hf]at h2;have run:∀b o',a.eval p= .pointer (aj (ad b o'))->(execOp a.eval o).run P w= .ok (.value (.pointer (aj (ad b (o'+off))))) w:=by intro b o' hp;unfold execOp;rw[ho];exact iE (by rw[hp];exact HU (P:=P) w hE hf b o')
  cases pv with
  |bp ic j=>obtain rfl:=aF h2;exact fL b8 dA hd h (s:= .v aq [.bp ic (j+off)]) (v:= .pointer (aj (ad (c.P ic).blk (j+off)))) rfl (λn hn=>kp n (by simpa [cD,bI]using hn)) (run _ _ ep)
  |rp ic i j=>obtain rfl:=aF h2;refine fL b8 dA hd h (s:= .v aq [.rp ic i (j+off)]) ?_ (λn hn=>kp n (by simpa [cD,bI]using hn)) (run _ _ ep.2);exact⟨ep.1,by rw[show(c.P ic).off+i*(c.P ic).sz+j+off=(c.P ic).off+i*(c.P ic).sz+(j+off)by omega]⟩
  |sp e2 xs i j=>obtain rfl:=aF h2;obtain⟨b,o',cp,ti,e1,UB,e3,e4⟩:=ep;refine fL b8 dA hd h (s:= .v aq [.sp e2 xs i (j+off)]) ?_ (λn hn=>by simp[cD,bI]at hn) (run _ _ e4);exact⟨b,o',cp,ti,e1,UB,e3,by rw[show o'+i*ti.ks.length+j+off=o'+i*ti.ks.length+(j+off)by omega]⟩
  |ip ic i j i2 j2=>obtain rfl:=aF h2;refine fL b8 dA hd h (s:= .v aq [.ip ic i j i2 (j2+off)]) ?_ (λn hn=>kp n (by simpa [cD,bI]using hn)) (run _ _ ep.1.2.2);exact⟨⟨ep.1.1,ep.1.2.1,by rw[show(c.G ic i j).off+i2*(c.G ic i j).sz+j2+off=(c.G ic i j).off+i2*(c.G ic i j).sz+(j2+off)by omega]⟩,ep.2⟩
  |fp cs j=>obtain rfl:=aF h2;obtain⟨b,e1,UB⟩:=ep;exact fL b8 dA hd h (s:= .v aq [.fp cs (j+off)]) ⟨b,rfl,UB⟩ (λn hn=>by simp[cD,bI]at hn) (run _ _ e1)
  |i=>simp at h2
  |b=>simp at h2
  |s=>simp at h2
  |sh=>simp at h2
  |nl=>simp at h2
  |own=>simp at h2
  |vw=>simp at h2
  |inn=>simp at h2
  |fn=>simp at h2
theorem JS(b8:Ok E σ w c)(dA:eZ E σ a w c)(hd:∀d,o.dst=aj d->d<a.tmps.size){x:dn}{i:aG}(ho:o.op= .extract x i)(h:(lG E nm o).val σ=aj e):gA P E σ a w c o e.ws:=by
 simp only[lG,ho]at h;obtain⟨v,h1,h⟩:=Rd.bind_some h;obtain⟨ev,kv⟩:=lN dA h1;split at h
 ·rename_i l;split at h
  ·rename_i agg xs hl;obtain⟨vs,e1,e2,e3⟩:=ev;obtain⟨u,hu,hv⟩:=e3 i agg xs hl;refine fL b8 dA hd h (v:=u) hv (λn hn=>kv n (bG.2 ⟨(agg,xs),aQ hl,hn⟩)) ?_;unfold execOp;rw[ho];refine iE ?_;rw[e1];simp only[Instr.extract,hu];rfl
  ·simp at h
 ·simp at h
theorem Wz(b8:Ok E σ w c)(dA:eZ E σ a w c)(hd:∀d,o.dst=aj d->d<a.tmps.size){x:dn}{op:UnOp}{t:aG}(ho:o.op= .unOp op t x)(h:(lG E nm o).val σ=aj e):gA P E σ a w c o e.ws:=by
 simp only[lG,ho]at h;obtain⟨v,h1,h⟩:=Rd.bind_some h;obtain⟨ev,kv⟩:=iI dA h1;cases op with
 |not=>
  cases v with
  |b b=>refine fL b8 dA hd h (v:= .bool !b) rfl (λn hn=>by simp[cD,bI]at hn) ?_;unfold execOp;rw[ho];refine iE ?_;rw[show a.eval x= .bool b from ev];rfl
  |_=>simp at h
 |neg=>
  cases v with
  |i k n=>refine fL b8 dA hd h (v:= .int k (k.wrap (0-n))) rfl (λn hn=>by simp[cD,bI]at hn) ?_;unfold execOp;rw[ho];refine iE ?_;rw[show a.eval x= .int k n from ev];rfl
  |_=>simp at h
 |_=>cases v<;>simp at h
theorem qU{E:fB}{σ:St}{t:aG}{k:Ck}(h:(pA E t).val σ=aj k):∃ti,E.ty t=aj ti/\ti.agg=aq/\ti.ks=[k]:=by
 obtain⟨ti,h1,h2⟩:=Rd.bind_some h;split at h2
 ·rename_i k' h3 h4;simp at h2;subst h2;exact⟨ti,dP h1,h3,h4⟩
 ·simp at h2
theorem ka{E:fB}{σ:St}(hE:dZ P E){t e:aG}(h:(pA E t).val σ=aj (.l e)):P.underlying t=aj (.slice e):=by obtain⟨ti,h1,h2,h3⟩:=qU h;exact oJ hE h1 h2 h3
theorem kJ{E:fB}{σ:St}(hE:dZ P E){t:aG}(h:(pA E t).val σ=aj .s):P.underlying t=aj .string:=by obtain⟨ti,h1,h2,h3⟩:=qU h;obtain⟨d,hd,_,hn⟩:=hE.desc t ti h1;rcases hn h2 with ⟨k,h,_⟩|⟨h,_⟩|⟨h,rfl⟩|⟨e',h,_⟩|⟨h,_⟩<;>rw[h3]at h<;>simp_all
theorem RJ(hE:dZ P E)(b8:Ok E σ w c)(dA:eZ E σ a w c)(hd:∀d,o.dst=aj d->d<a.tmps.size){x y:dn}{t:aG}(ho:o.op= .index t x y)(h:(lG E nm o).val σ=aj e)(hc:e.cond=ak):gA P E σ a w c o e.ws:=by
 simp only[lG,ho]at h;obtain⟨kk,h0,h⟩:=Rd.bind_some h;obtain⟨v,h1,h⟩:=Rd.bind_some h;obtain⟨⟨k,n⟩,h2,h⟩:=Rd.bind_some h;obtain⟨ev,kv⟩:=iI dA h1;have ei:=pB dA h2;cases kk with
 |s=>cases v with
  |s s=>
   have hu:=kJ hE h0;refine DN b8 dA hd h hc (v:= .int .u8 ((s.data.getD n.toNat 0).toNat:aA)) (λ_=>rfl) (td rfl) (λhb=> ?_);simp only[aK,bf]at hb;obtain⟨h0,h3⟩:=hb;unfold execOp;rw[ho];refine iE ?_;replace ev:a.eval x= .string s:=ev.1;have jD:n.toNat<s.size:=by omega
   have hg:s[n.toNat]? =aj s[n.toNat]:=by simp[jD]
   have hs:s[n.toNat]=s.data.getD n.toNat 0:=by rw[Array.getD,dif_pos (show n.toNat<s.data.size from jD)];rfl
   simp only[ev,ei,Instr.index,asIntOf,cg,cL,bB,run_underlying hu,h0,if_true,hg,hs]
  |_=>simp at h
 |_=>simp at h
end
end Go.FG

namespace Go.FG
section
variable {P:cQ} {E:fB} {σ:St} {a:Act} {w:bF} {c:eK} {o:eV} {nm:aG} {e:rX}
theorem qh{α:Type}{b:aY}{x:α}{σ:St}{r:α}(h:(bif b then Rd.ret x else Rd.fail).val σ=aj r):b=ak/\r=x:=by obtain⟨h1,h2⟩:=cE h;exact⟨h1,(aF h2).symm⟩
theorem eL{p:Pl}(h:p.nil=aq):lj p= .slice (aj (ad p.blk p.off)) p.n p.cap:=by unfold lj;rw[bL (by simp[h])]
theorem mV{p:Pl}(h:p.nil=ak):lj p= .slice ao 0 0:=by unfold lj;rw[bC h]
theorem kL{nm e:aG}{ex:aY}{xs:aX}(b8:Ok E σ w c)(h:σ (cW nm)= .o (.row e ex xs)):
  (c.P nm).n=xs.length/\((c.P nm).nil=ak->xs=[])/\∃ti,E.ty e=aj ti/\(c.P nm).sz=ti.ks.length/\((c.P nm).nil=aq->(c.P nm).n<=(c.P nm).cap/\(c.P nm).cap<=maxLen):=by have mq:=b8.obj nm _ h;obtain⟨ti,h1,h2,_⟩:=mq.sh;exact⟨mq.at_.n,λhn=>(mq.at_.nil hn).1,ti,h1,h2,λhn=>by obtain⟨_,_,h3,h4,_⟩:=mq.at_.mem hn;exact⟨h3,h4⟩⟩
theorem mv{nm e:aG}{xs:aX}(b8:Ok E σ w c)(h:σ (cW nm)= .o (.fE e xs)):
  (c.P nm).n=xs.length/\((c.P nm).nil=ak->xs=[])/\∃ti,E.ty e=aj ti/\(c.P nm).sz=ti.ks.length:=by
 obtain⟨h1,h2,h3⟩:=b8.obj nm _ h;refine⟨h2,λhn=> ?_,h3⟩
 rw[mV hn]at h1;cases h1;rfl
theorem Fm(hE:dZ P E)(b8:Ok E σ w c)(dA:eZ E σ a w c)(hd:∀d,o.dst=aj d->d<a.tmps.size){x y:dn}{t:aG}(ho:o.op= .indexAddr t x y)(h:(lG E nm o).val σ=aj e)(hc:e.cond=ak):gA P E σ a w c o e.ws:=by
 simp only[lG,ho]at h;obtain⟨kk,h0,h⟩:=Rd.bind_some h;cases kk with
 |l el=>
  obtain⟨v,h1,h⟩:=Rd.bind_some h;obtain⟨⟨k,n⟩,h2,h⟩:=Rd.bind_some h;obtain⟨⟨b,q⟩,h3,h⟩:=Rd.bind_some h;obtain⟨ev,kv⟩:=iI dA h1;have ei:=pB dA h2;have hu:=ka hE h0;have run:∀te b o' m cp,E.ty el=aj te->a.eval x= .slice (aj (ad b o')) m cp->0<=n->n<(m:aA)->(execOp a.eval o).run P w= .ok (.value (.pointer (aj (ad b (o'+n.toNat*te.ks.length))))) w:=by intro te b o' m cp JC hx h0 h1;unfold execOp;rw[ho];refine iE ?_;rw[hx,ei];exact HV (P:=P) w hE hu JC b o' m cp k n h0 h1
  cases v with
  |sh e' xs=>
   obtain⟨Cz,h3⟩:=qh h3;obtain⟨rfl,rfl⟩:=bU h3;have:=aW Cz;subst this;obtain rfl:=aF h;have hc:(decide (0<=n)&&decide (n<(xs.length:aA)))=true:=hc;simp only[aK,bf]at hc;obtain⟨c0,c1⟩:=hc;have ev:cY E w c.K (a.eval x) (.l el xs):=ev;generalize hv:a.eval x=v at ev;have h_:0<xs.length:=by omega
   cases ev with
   |nl=>simp at h_
   |l _ _ bb oo cc ti U ht M7 hmx hK hs hcell gO=>exact gj b8 dA hd (s:= .v aq [.sp el xs n.toNat 0]) (v:= .pointer (aj (ad bb (oo+n.toNat*ti.ks.length)))) ⟨bb,oo,cc,ti, .l el xs bb oo cc ti U ht M7 hmx hK hs hcell gO,by omega,ht,rfl⟩ (λn hn=>by simp[cD,bI]at hn) (run ti bb oo _ cc ht hv c0 c1)
  |own ic=>
   obtain⟨ob,hg,h3⟩:=Rd.bind_some h3;have hg:=dp hg;have main:∀(xs:aX),(c.P ic).n=xs.length->((c.P ic).nil=ak->xs=[])->(∃ti,E.ty el=aj ti/\(c.P ic).sz=ti.ks.length)->(b,q)=(decide (0<=n)&&decide (n<(xs.length:aA)),AV.rp ic n.toNat 0)->gA P E σ a w c o e.ws:=by
    intro xs hn jd U4 hbq;obtain⟨rfl,rfl⟩:=bU hbq;obtain rfl:=aF h;have hc:(decide (0<=n)&&decide (n<(xs.length:aA)))=true:=hc;simp only[aK,bf]at hc;obtain⟨c0,c1⟩:=hc;obtain⟨ti,ht,fT⟩:=U4;have Nb:(c.P ic).nil=false:=by
     cases hq:(c.P ic).nil with
     |false=>rfl
     |true=>rw[jd hq]at c1;simp at c1;omega
    have hx:a.eval x= .slice (aj (ad (c.P ic).blk (c.P ic).off)) (c.P ic).n (c.P ic).cap:=by rw[<-eL Nb];exact ev
    refine gj b8 dA hd (s:= .v aq [.rp ic n.toNat 0]) (v:= .pointer (aj (ad (c.P ic).blk ((c.P ic).off+n.toNat*ti.ks.length)))) ⟨by omega,by rw[fT];rfl⟩ (λm hm=>by simp[cD,bI]at hm;subst hm;rw[hg];simp) (run ti _ _ _ _ ht hx c0 (by rw[hn];exact c1))
   cases ob with
   |row e' ex xs=>obtain⟨Cz,h4⟩:=qh h3;have:=aW Cz;subst this;obtain⟨i1,i2,ti,i3,i4,_⟩:=kL b8 hg;exact main xs i1 i2 ⟨ti,i3,i4⟩ h4
   |fE e' xs=>obtain⟨Cz,h4⟩:=qh h3;have:=aW Cz;subst this;obtain⟨i1,i2,i3⟩:=mv b8 hg;exact main xs i1 i2 i3 h4
   |_=>simp at h3
  |vw ic lo hi=>
   obtain⟨ob,hg,h3⟩:=Rd.bind_some h3;have hg:=dp hg;have main:∀(xs:aX),(c.P ic).n=xs.length->(∃ti,E.ty el=aj ti/\(c.P ic).sz=ti.ks.length)->(b,q)=(decide (0<=n)&&decide (n<((hi-lo:aG):aA)),AV.rp ic (lo+n.toNat) 0)->gA P E σ a w c o e.ws:=by
    intro xs hn U4 hbq;obtain⟨rfl,rfl⟩:=bU hbq;obtain rfl:=aF h;have hc:(decide (0<=n)&&decide (n<((hi-lo:aG):aA)))=true:=hc;simp only[aK,bf]at hc;obtain⟨c0,c1⟩:=hc;obtain⟨ti,ht,fT⟩:=U4;obtain⟨v1,v2,v3,v4⟩:=ev;have Nb:(c.P ic).nil=false:=by
     cases hq:(c.P ic).nil with
     |false=>rfl
     |true=>
      obtain⟨f1,_⟩:(c.P ic).n=0/\True:=by
       have mq:=b8.obj ic _ hg;rw[hn];cases ob with
       |row e' ex ys=>obtain⟨j1,j2,_⟩:=kL b8 hg;rw[<-hn,j1,j2 hq];simp
       |fE e' ys=>obtain⟨j1,j2,_⟩:=mv b8 hg;rw[<-hn,j1,j2 hq];simp
       |_=>simp at h3
      omega
    rcases v4 Nb with ⟨u1,hx⟩|⟨u1,oo,u2,hx⟩
    ·refine gj b8 dA hd (s:= .v aq [.rp ic (lo+n.toNat) 0]) (v:= .pointer (aj (ad (c.P ic).blk ((c.P ic).off+lo*(c.P ic).sz+n.toNat*ti.ks.length)))) ⟨by omega, ?_⟩ (λm hm=>by simp[cD,bI]at hm;subst hm;rw[hg];simp) (run ti _ _ _ _ ht hx c0 c1);rw[<-fT,show(c.P ic).off+(lo+n.toNat)*(c.P ic).sz+0=(c.P ic).off+lo*(c.P ic).sz+n.toNat*(c.P ic).sz by rw[da];omega]
    ·exfalso;have M7:(c.P ic).n<=(c.P ic).cap:=by
      cases ob with
      |row e' ex ys=>obtain⟨_,_,_,_,_,j⟩:=kL b8 hg;exact(j Nb).1
      |fE e' ys=>
       obtain⟨j1,j2,_⟩:=b8.obj ic _ hg;rw[eL Nb]at j1;by_cases hz:0<ys.length
       ·obtain⟨t3,U,L⟩:=j1.Hy hz;rw[j2];exact L.cap
       ·omega
      |_=>simp at h3
     omega
   cases ob with
   |row e' ex xs=>obtain⟨Cz,h4⟩:=qh h3;have:=aW Cz;subst this;obtain⟨i1,i2,ti,i3,i4,_⟩:=kL b8 hg;exact main xs i1 ⟨ti,i3,i4⟩ h4
   |fE e' xs=>obtain⟨Cz,h4⟩:=qh h3;have:=aW Cz;subst this;obtain⟨i1,i2,i3⟩:=mv b8 hg;exact main xs i1 i3 h4
   |_=>simp at h3
  |inn ic i j=>
   obtain⟨ob,hg,h3⟩:=Rd.bind_some h3;have hg:=dp hg;cases ob with
   |row e' ex xs=>
    cases ex with
    |false=>simp at h3
    |true=>
     obtain⟨te,ht,h3⟩:=Rd.bind_some h3;have ht:=dP ht;split at h3
     ·rename_i e2 zv;obtain⟨Cz,h3⟩:=qh h3;obtain⟨rfl,rfl⟩:=bU h3;have:=aW Cz;subst this;obtain rfl:=aF h;obtain⟨⟨lL,hx⟩,hFv⟩:=ev;obtain⟨⟨tj,htj,fT,mc⟩,fS,_⟩:=b8.obj ic _ hg;obtain rfl:te=tj:=aF (ht.symm.trans htj);obtain⟨zs,y',hy,hyj,uu,_,tk,E_,rD,JB,CD,n9⟩:=tw (c:=c) fS mc lL zv;have hc:(decide (0<=n)&&decide (n<((ju (aw xs i j)).length:aA)))=true:=hc;rw[e7 hy hyj]at hc;simp only[aK,bf]at hc;obtain⟨c0,c1⟩:=hc;have c1:n<(zs.length:aA):=c1;have Nb:(c.G ic i j).nil=false:=by
       cases hq:(c.G ic i j).nil with
       |false=>rfl
       |true=>have:=(n9.nil hq).1;subst this;simp at c1;omega
      rw[eL Nb]at hx;refine gj b8 dA hd (s:= .v aq [.ip ic i j n.toNat 0]) (v:= .pointer (aj (ad (c.G ic i j).blk ((c.G ic i j).off+n.toNat*tk.ks.length)))) ⟨⟨lL,by rw[n9.n];omega,by rw[JB];rfl⟩,hFv⟩ (λm hm=>by simp[cD,bI]at hm;subst hm;rw[hg];simp) (run tk _ _ _ _ E_ hx c0 (by rw[n9.n];exact c1))
     ·simp at h3
   |_=>simp at h3
  |_=>simp[QQ]at h3
 |_=>simp at h
end
end Go.FG

namespace Go.FG
section
variable {P:cQ} {E:fB} {σ:St} {a:Act} {w:bF} {c:eK} {o:eV} {nm:aG} {e:rX}
theorem zZ(dA:eZ E σ a w c){x:aD dn}{d n:aA}(h:(nE x d).val σ=aj n):(x=ao/\n=d)\/∃y k,x=aj y/\a.eval y= .int k n:=by
 cases x with
 |none=>exact .inl ⟨rfl,(aF h).symm⟩
 |some y=>obtain⟨⟨k,m⟩,h1,h2⟩:=Rd.bind_some h;obtain rfl:=aF h2;exact .inr ⟨y,k,rfl,pB dA h1⟩
theorem DJ{x:bg}{k:mI}{n:aA}{y:aG}{code:BoundsCode}(hx:x= .int k n)(h0:0<=n)(h1:n<=y):(qv x y code).run P w= .ok n.toNat w:=by subst hx;simp only[qv,asIntOf,cg,cL,bB,h0,h1,and_self,if_true]
theorem BG(dA:eZ E σ a w c){isS:aY}{len cap:aG}{lo hi:aD dn}{l h:aA}(hl:(nE lo 0).val σ=aj l)(hh:(nE hi len).val σ=aj h)(h0:0<=l)(h1:l<=h)(h2:h<=cap):
  (mz isS len cap (lo.map a.eval) (hi.map a.eval) ao).run P w= .ok (l.toNat,h.toNat,cap) w:=by
 have low:∀v,lo=aj v->∀code,(qv (a.eval v) h.toNat code).run P w= .ok l.toNat w:=by
  intro v hv code;rcases zZ dA hl with ⟨hx,_⟩|⟨y,k,hx,hy⟩
  ·rw[hx]at hv;cases hv
  ·rw[hx]at hv;cases hv;exact DJ hy h0 (by omega)
 have high:∀v,hi=aj v->∀code,(qv (a.eval v) cap code).run P w= .ok h.toNat w:=by
  intro v hv code;rcases zZ dA hh with ⟨hx,_⟩|⟨y,k,hx,hy⟩
  ·rw[hx]at hv;cases hv
  ·rw[hx]at hv;cases hv;exact DJ hy (by omega) h2
 have l0:lo=ao->l=0:=λhx=>by rcases zZ dA hl with ⟨_,hn⟩|⟨y,k,hy,_⟩;exact hn;rw[hx]at hy;cases hy
 have TN:hi=ao->h=len:=λhx=>by rcases zZ dA hh with ⟨_,hn⟩|⟨y,k,hy,_⟩;exact hn;rw[hx]at hy;cases hy
 cases lo with
 |none=>
  obtain rfl:=l0 rfl;cases hi with
  |none=>obtain rfl:=TN rfl;simp[mz]
  |some v=>simp[mz,high v rfl]
 |some u=>
  cases hi with
  |none=>obtain rfl:=TN rfl;have:=low u rfl;simp only[dx]at this;simp[mz,this]
  |some v=>simp[mz,high v rfl,low u rfl]
theorem J5{t:aG}(hu:P.underlying t=aj .string)(dA:eZ E σ a w c){lo hi:aD dn}{l h:aA}{s:au}(hl:(nE lo 0).val σ=aj l)(hh:(nE hi s.size).val σ=aj h)(h0:0<=l)(h1:l<=h)(h2:h<=(s.size:aA)):
  (pW t (.string s) (lo.map a.eval) (hi.map a.eval) ao).run P w= .ok (.string (s.extract l.toNat h.toNat)) w:=by simp only[pW,Instr.slice,cg,run_underlying hu,bB,Option.isSome_none,dj,if_false,BG (P:=P) dA hl hh h0 h1 h2,cL]
theorem ki{t el:aG}{te:TI}(hE:dZ P E)(hu:P.underlying t=aj (.slice el))(he:E.ty el=aj te)(dA:eZ E σ a w c){lo hi:aD dn}{l h:aA}{A:aD Addr}{n cp:aG}(hl:(nE lo 0).val σ=aj l)(hh:(nE hi n).val σ=aj h)(h0:0<=l)(h1:l<=h)(h2:h<=(cp:aA)):
  (pW t (.slice A n cp) (lo.map a.eval) (hi.map a.eval) ao).run P w= .ok (.slice (if cp=l.toNat then A else A.map (·.add (l.toNat*te.ks.length))) (h.toNat-l.toNat) (cp-l.toNat)) w:=by obtain⟨inf,lE,fT,_⟩:=hE.info el te he;simp only[pW,Instr.slice,cg,run_underlying hu,bB,BG (P:=P) dA hl hh h0 h1 h2,sizeOf,typeInfo,program,mJ,lE,fT,cL]
theorem sS{xs:aX}{lo hi i:aG}:(eP xs lo hi)[i]? =if i<hi-lo then xs[lo+i]? else none:=by unfold eP;rw[dR];split<;>simp[dJ]
theorem lS{xs:aX}{lo hi:aG}(h:hi<=xs.length):(eP xs lo hi).length=hi-lo:=by unfold eP;simp;omega
theorem Bh{xs:aX}{lo hi:aG}{y:az CV}(h:y∈eP xs lo hi):y∈xs:=kC (kD h)
theorem aam{K:aG->Prop}{v:bg}{el:aG}{xs:aX}{te:TI}(he:E.ty el=aj te)(h:cY E w K v (.l el xs)){lo hi:aG}(h1:lo<=hi)(h2:hi<=xs.length):
  ∃A n cp,v= .slice A n cp/\n=xs.length/\n<=cp\/∃A cp,v= .slice A 0 cp/\xs=[]:=by
 cases h with
 |nl=>exact⟨ao,0,0, .inr ⟨_,_,rfl,rfl⟩⟩
 |l _ _ b oo cp ti U ht hc=>exact⟨_,_,_, .inl ⟨rfl,rfl,hc⟩⟩
theorem Dv{K:aG->Prop}{A:aD Addr}{n cp el:aG}{xs:aX}{te:TI}(he:E.ty el=aj te)(h:cY E w K (.slice A n cp) (.l el xs)){lo hi:aG}(h1:lo<=hi)(h2:hi<=xs.length):
  n=xs.length/\cY E w K (.slice (if cp=lo then A else A.map (·.add (lo*te.ks.length))) (hi-lo) (cp-lo)) (.l el (eP xs lo hi)):=by
 generalize hv:Value.slice A n cp=v at h;generalize hx:CV.l el xs=x at h;cases h with
 |i=>cases hx
 |b=>cases hx
 |s=>cases hx
 |nl=>
  cases hx;cases hv;have:hi=0:=by simpa using h2
  subst this;have:lo=0:=by omega
  subst this;exact⟨rfl, .nl _ _ _⟩
 |l _ _ b oo cp ti U ht hc hm hK hs hcell gO=>
  cases hx;cases hv;refine⟨rfl, ?_⟩
  obtain rfl:te=ti:=aF (he.symm.trans ht);by_cases hz:hi-lo=0
  ·rw[hz];have:eP xs lo hi=[]:=by unfold eP;rw[hz];simp
   rw[this];exact .nl _ _ _
  ·rw[bL (by omega)];simp only[iQ,Addr.nA];have hl:=lS (xs:=xs) (lo:=lo) h2;rw[<-hl];refine .l el (eP xs lo hi) b (oo+lo*te.ks.length) (cp-lo) te (λi j=>U (lo+i) j) ht (by rw[hl];omega) (by omega) hK (λy hy=>hs y (Bh hy)) (λi j y x lE hj=> ?_) (λi j y x lE hj=> ?_)
   ·rw[sS]at lE;split at lE
    ·have:=hcell (lo+i) j y x lE hj;rw[<-this];congr 2;rw[da];omega
    ·cases lE
   ·rw[sS]at lE;split at lE
    ·exact gO (lo+i) j y x lE hj
    ·cases lE
theorem RK(hE:dZ P E)(b8:Ok E σ w c)(dA:eZ E σ a w c)(hd:∀d,o.dst=aj d->d<a.tmps.size){x:dn}{t:aG}{lo hi mx:aD dn}(ho:o.op= .slice t x lo hi mx)(h:(lG E nm o).val σ=aj e)(hc:e.cond=ak):gA P E σ a w c o e.ws:=by
 simp only[lG,ho]at h;cases mx with
 |some m=>simp at h
 |none=>
 obtain⟨kk,hk,h⟩:=Rd.bind_some h;obtain⟨v,h1,h⟩:=Rd.bind_some h;obtain⟨⟨b,q⟩,h3,h⟩:=Rd.bind_some h;obtain⟨ev,kv⟩:=iI dA h1;have exec:∀{u r:bg},a.eval x=u->(pW t u (lo.map a.eval) (hi.map a.eval) ao).run P w= .ok r w->(execOp a.eval o).run P w= .ok (.value r) w:=by intro u r hu hr;unfold execOp;rw[ho];exact iE (by rw[hu];exact hr)
 cases kk with
 |s=>cases v with
  |s s=>have hu:=kJ hE hk;obtain⟨l,hl,h3⟩:=Rd.bind_some h3;obtain⟨hh,zu,h3⟩:=Rd.bind_some h3;obtain⟨rfl,rfl⟩:=bU (aF h3);obtain rfl:=aF h;have hc:iO l hh s.size=true:=hc;simp only[iO,aK,bf]at hc;obtain⟨⟨c0,c1⟩,c2⟩:=hc;exact gj b8 dA hd (s:= .v aq [.s _]) (v:= .string _) ⟨rfl,by have h5:=ev.2;unfold Gc at h5⊢;rw[wE];omega⟩ (λn hn=>by simp[cD,bI]at hn) (exec ev.1 (J5 (P:=P) hu dA hl zu c0 c1 c2))
  |_=>simp[J_]at h3
 |l el=>
  have hu:=ka hE hk;obtain⟨te,JC,h3⟩:=Rd.bind_some h3;have JC:=dP JC;cases v with
  |sh e' xs=>
   obtain⟨Cz,h4⟩:=cE h3;have:=aW Cz;subst this;obtain⟨l,hl,h4⟩:=Rd.bind_some h4;obtain⟨hh,zu,h4⟩:=Rd.bind_some h4;obtain⟨rfl,rfl⟩:=bU (aF h4);obtain rfl:=aF h;have hc:iO l hh xs.length=true:=hc;simp only[iO,aK,bf]at hc;obtain⟨⟨c0,c1⟩,c2⟩:=hc;have ev:cY E w c.K (a.eval x) (.l el xs):=ev;generalize hv:a.eval x=v at ev;cases ev with
   |nl _ A cp=>
    have h0:hh=0:=by simp at c2;omega
    have l0:l=0:=by omega
    subst h0;subst l0;have hr:=ki (P:=P) (te:=te) hE hu JC dA (A:=A) (n:=0) (cp:=cp) hl zu (by omega) (by omega) (by omega);exact gj b8 dA hd (s:= .v aq [.sh el (eP [] (0:aA).toNat (0:aA).toNat)]) (.nl _ _ _) (λn hn=>by simp[cD,bI]at hn) (exec hv hr)
   |l _ _ bb oo cp ti U ht M7 hmx hK hs hcell gO=>have hr:=ki (P:=P) (te:=ti) hE hu ht dA (A:=aj (ad bb oo)) (cp:=cp) hl zu c0 c1 (by omega);have amu:=(Dv (lo:=l.toNat) (hi:=hh.toNat) ht (.l el xs bb oo cp ti U ht M7 hmx hK hs hcell gO) (by omega) (by omega)).2;exact gj b8 dA hd (s:= .v aq [.sh el (eP xs l.toNat hh.toNat)]) amu (λn hn=>by simp[cD,bI]at hn) (exec hv hr)
  |own ic=>
   obtain⟨ob,hg,h3⟩:=Rd.bind_some h3;have hg:=dp hg
   have main:∀(xs:aX),(c.P ic).n=xs.length->((c.P ic).nil=ak->xs=[])->(∃ti,E.ty el=aj ti/\(c.P ic).sz=ti.ks.length)->((c.P ic).nil=aq->(c.P ic).n<=(c.P ic).cap)->
     ((nE lo 0).bind λl=>(nE hi xs.length).bind λh=>Rd.ret (iO l h xs.length,AV.vw ic l.toNat h.toNat)).val σ=aj (b,q)->gA P E σ a w c o e.ws:=by
    intro xs hn jd U4 hcp h4
    obtain⟨l,hl,h4⟩:=Rd.bind_some h4
    obtain⟨hh,zu,h4⟩:=Rd.bind_some h4
    obtain⟨rfl,rfl⟩:=bU (aF h4)
    obtain rfl:=aF h
    have hc:iO l hh xs.length=true:=hc
    simp only[iO,aK,bf]at hc
    obtain⟨⟨c0,c1⟩,c2⟩:=hc
    obtain⟨ti,ht,fT⟩:=U4
    have ev:a.eval x=lj (c.P ic):=ev
    cases hq:(c.P ic).nil with
    |true=>
     rw[mV hq]at ev;have hx:=jd hq;subst hx;have h0:hh=0:=by simp at c2;omega
     have l0:l=0:=by omega
     subst h0;subst l0;have hr:=ki (P:=P) (te:=ti) hE hu ht dA (A:=ao) (n:=0) (cp:=0) hl zu (by omega) (by omega) (by simp);refine gj b8 dA hd (s:= .v aq [.vw ic 0 0]) (v:= .slice ao 0 0) ⟨cu _,bK _,λ_=>rfl,λhf=>by rw[hq]at hf;cases hf⟩ (λm hm=>by simp[cD,bI]at hm;subst hm;rw[hg];simp) (exec ev (by simpa using hr))
    |false=>
     rw[eL hq]at ev;have hcp:=hcp hq;have hr:=ki (P:=P) (te:=ti) hE hu ht dA (A:=aj (ad (c.P ic).blk (c.P ic).off)) (n:=(c.P ic).n) (cp:=(c.P ic).cap) hl (by rw[hn];exact zu) c0 c1 (by omega);refine gj b8 dA hd (s:= .v aq [.vw ic l.toNat hh.toNat]) ⟨by omega,by omega,λhf=>(by rw[hq]at hf;cases hf),λ_=> ?_⟩ (λm hm=>by simp[cD,bI]at hm;subst hm;rw[hg];simp) (exec ev hr);by_cases hle:(c.P ic).cap=l.toNat
     ·refine .inr ⟨hle.symm,(c.P ic).off,by omega, ?_⟩;rw[bC hle,show hh.toNat-l.toNat=0 by omega,show(c.P ic).cap-l.toNat=0 by omega]
     ·refine .inl ⟨by omega, ?_⟩;rw[bL hle];simp only[iQ,Addr.nA,fT]
   cases ob with
   |row e' ex xs=>obtain⟨Cz,h4⟩:=cE h3;have:=aW Cz;subst this;obtain⟨i1,i2,ti,i3,i4,i5⟩:=kL b8 hg;exact main xs i1 i2 ⟨ti,i3,i4⟩ (λh=>(i5 h).1) h4
   |fE e' xs=>
    obtain⟨Cz,h4⟩:=cE h3;have:=aW Cz;subst this;obtain⟨i1,i2,i3⟩:=mv b8 hg;refine main xs i1 i2 i3 (λNb=> ?_) h4;obtain⟨j1,j2,_⟩:=b8.obj ic _ hg;rw[eL Nb]at j1;by_cases hz:0<xs.length
    ·obtain⟨t3,U,L⟩:=j1.Hy hz;rw[j2];exact L.cap
    ·omega
   |_=>simp at h3
  |vw ic CH E4=>
   obtain⟨ob,hg,h3⟩:=Rd.bind_some h3;have hg:=dp hg
   have main:(∃ti,E.ty el=aj ti/\(c.P ic).sz=ti.ks.length)->((c.P ic).nil=ak->(c.P ic).n=0)->((c.P ic).nil=aq->(c.P ic).n<=(c.P ic).cap)->
     ((nE lo 0).bind λl=>(nE hi ((E4-CH:aG):aA)).bind λh=>Rd.ret (iO l h ((E4-CH:aG):aA),AV.vw ic (CH+l.toNat) (CH+h.toNat))).val σ=aj (b,q)->gA P E σ a w c o e.ws:=by
    intro U4 jd hcp h4
    obtain⟨l,hl,h4⟩:=Rd.bind_some h4
    obtain⟨hh,zu,h4⟩:=Rd.bind_some h4
    obtain⟨rfl,rfl⟩:=bU (aF h4)
    obtain rfl:=aF h
    have hc:iO l hh ((E4-CH:aG):aA)=true:=hc
    simp only[iO,aK,bf]at hc
    obtain⟨⟨c0,c1⟩,c2⟩:=hc
    obtain⟨ti,ht,fT⟩:=U4
    obtain rfl:te=ti:=aF (JC.symm.trans ht)
    obtain⟨v1,v2,v3,v4⟩:=ev
    cases hq:(c.P ic).nil with
    |true=>
     have hz:=jd hq;have ex:=v3 hq;have hi0:E4=0:=by omega
     have lo0:CH=0:=by omega
     subst hi0;subst lo0;have h0:hh=0:=by simp at c2;omega
     have l0:l=0:=by omega
     subst h0;subst l0;have hr:=ki (P:=P) (te:=te) hE hu ht dA (A:=ao) (n:=0) (cp:=0) hl (by simpa using zu) (by omega) (by omega) (by simp);refine gj b8 dA hd (s:= .v aq [.vw ic (0+(0:aA).toNat) (0+(0:aA).toNat)]) (v:= .slice ao 0 0) ⟨cu _,bK _,λ_=>rfl,λhf=>by rw[hq]at hf;cases hf⟩ (λm hm=>by simp[cD,bI]at hm;subst hm;rw[hg];simp) (exec ex (by simpa using hr))
    |false=>
     have hcp:=hcp hq;rcases v4 hq with ⟨u1,ex⟩|⟨u1,oo,u2,ex⟩
     ·have hr:=ki (P:=P) (te:=te) hE hu ht dA (A:=aj (ad (c.P ic).blk ((c.P ic).off+CH*(c.P ic).sz))) (n:=E4-CH) (cp:=(c.P ic).cap-CH) hl zu c0 c1 (by omega);refine gj b8 dA hd (s:= .v aq [.vw ic (CH+l.toNat) (CH+hh.toNat)]) ⟨by omega,by omega,λhf=>(by rw[hq]at hf;cases hf),λ_=> ?_⟩ (λm hm=>by simp[cD,bI]at hm;subst hm;rw[hg];simp) (exec ex hr);by_cases hle:(c.P ic).cap-CH=l.toNat
      ·refine .inr ⟨by omega,(c.P ic).off+CH*(c.P ic).sz, ?_, ?_⟩
       ·have:=b7 (c.P ic).sz (Nat.le_of_lt u1);omega
       ·rw[bC hle,show hh.toNat-l.toNat=0 by omega,show(c.P ic).cap-CH-l.toNat=0 by omega]
      ·refine .inl ⟨by omega, ?_⟩;rw[bL hle];simp only[iQ,Addr.nA,fT];rw[show CH+hh.toNat-(CH+l.toNat)=hh.toNat-l.toNat by omega,show(c.P ic).cap-(CH+l.toNat)=(c.P ic).cap-CH-l.toNat by omega,da,lC]
     ·have hr:=ki (P:=P) (te:=te) hE hu ht dA (A:=aj (ad (c.P ic).blk oo)) (n:=0) (cp:=0) hl (by rw[show E4-CH=0 by omega]at zu;exact zu) c0 c1 (by omega);have h0:hh=0:=by omega
      have l0:l=0:=by omega
      subst h0;subst l0;refine gj b8 dA hd (s:= .v aq [.vw ic (CH+(0:aA).toNat) (CH+(0:aA).toNat)]) (v:= .slice (aj (ad (c.P ic).blk oo)) 0 0) ⟨cu _,by simp;omega,λhf=>(by rw[hq]at hf;cases hf),λ_=> .inr ⟨by simpa using u1,oo,u2,rfl⟩⟩ (λm hm=>by simp[cD,bI]at hm;subst hm;rw[hg];simp) (exec ex (by simpa using hr))
   cases ob with
   |row e' ex xs=>obtain⟨Cz,h4⟩:=cE h3;have:=aW Cz;subst this;obtain⟨i1,i2,ti,i3,i4,i5⟩:=kL b8 hg;exact main ⟨ti,i3,i4⟩ (λhn=>by rw[i1,i2 hn];rfl) (λh=>(i5 h).1) h4
   |fE e' xs=>
    obtain⟨Cz,h4⟩:=cE h3;have:=aW Cz;subst this;obtain⟨i1,i2,i3⟩:=mv b8 hg;refine main i3 (λhn=>by rw[i1,i2 hn];rfl) (λNb=> ?_) h4;obtain⟨j1,j2,_⟩:=b8.obj ic _ hg;rw[eL Nb]at j1;by_cases hz:0<xs.length
    ·obtain⟨t3,U,L⟩:=j1.Hy hz;rw[j2];exact L.cap
    ·omega
   |_=>simp at h3
  |nl=>
   obtain⟨l,hl,h4⟩:=Rd.bind_some h3;obtain⟨hh,zu,h4⟩:=Rd.bind_some h4;obtain⟨rfl,rfl⟩:=bU (aF h4);obtain rfl:=aF h;have hc:iO l hh 0=true:=hc;simp only[iO,aK,bf]at hc;obtain⟨⟨c0,c1⟩,c2⟩:=hc;have h0:hh=0:=by omega
   have l0:l=0:=by omega
   subst h0;subst l0;have hr:=ki (P:=P) (te:=te) hE hu JC dA (A:=ao) (n:=0) (cp:=0) hl zu (by omega) (by omega) (by simp);exact gj b8 dA hd (s:= .v aq [.nl]) (v:= .slice ao 0 0) rfl (λn hn=>by simp[cD,bI]at hn) (exec ev (by simpa using hr))
  |_=>simp[Sq]at h3
 |_=>simp[J_]at h3
end
end Go.FG

namespace Go.FG
section
variable {P:cQ} {E:fB} {σ:St} {a:Act} {w:bF} {c:eK} {o:eV} {nm:aG} {e:rX}
theorem NJ(b8:Ok E σ w c){x:AV}{v:bg}(hx:ea E w c x v){el:aG}{xs:aX}(h:(lV E x).val σ=aj (el,xs)):∃A cp,v= .slice A xs.length cp:=by
 cases x with
 |sh e' ys=>
  obtain⟨rfl,rfl⟩:=bU (aF h);have hx:cY E w c.K v (.l e' ys):=hx;cases hx with
  |nl=>exact⟨_,_,rfl⟩
  |l=>exact⟨_,_,rfl⟩
 |own n=>
  obtain⟨ob,hg,h⟩:=Rd.bind_some h;have hg:=dp hg;have hx:v=lj (c.P n):=hx;have main:∀ys:aX,(c.P n).n=ys.length->((c.P n).nil=ak->ys=[])->∃A cp,v= .slice A ys.length cp:=by
   intro ys h1 h2;cases hq:(c.P n).nil with
   |true=>rw[hx,mV hq,h2 hq];exact⟨_,_,rfl⟩
   |false=>rw[hx,eL hq,h1];exact⟨_,_,rfl⟩
  cases ob with
  |row e' ex ys=>obtain⟨rfl,rfl⟩:=bU (aF h);obtain⟨i1,i2,_⟩:=kL b8 hg;exact main _ i1 i2
  |fE e' ys=>obtain⟨rfl,rfl⟩:=bU (aF h);obtain⟨i1,i2,_⟩:=mv b8 hg;exact main _ i1 i2
  |_=>simp at h
 |vw n lo hi=>
  obtain⟨ob,hg,h⟩:=Rd.bind_some h;have hg:=dp hg;obtain⟨v1,v2,v3,v4⟩:=hx;have main:∀ys:aX,(c.P n).n=ys.length->((c.P n).nil=ak->ys=[])->((c.P n).nil=aq->(c.P n).n<=(c.P n).cap)->∃A cp,v= .slice A (eP ys lo hi).length cp:=by
   intro ys h1 h2 h3;rw[lS (by omega)];cases hq:(c.P n).nil with
   |true=>have:=h2 hq;subst this;rw[v3 hq,show hi-lo=0 by simp at h1;omega];exact⟨_,_,rfl⟩
   |false=>
    rcases v4 hq with ⟨_,h⟩|⟨u1,oo,_,h⟩
    ·rw[h];exact⟨_,_,rfl⟩
    ·have:=h3 hq;rw[h,show hi-lo=0 by omega];exact⟨_,_,rfl⟩
  cases ob with
  |row e' ex ys=>obtain⟨rfl,rfl⟩:=bU (aF h);obtain⟨i1,i2,ti,_,_,i5⟩:=kL b8 hg;exact main _ i1 i2 (λh=>(i5 h).1)
  |fE e' ys=>
   obtain⟨rfl,rfl⟩:=bU (aF h);obtain⟨i1,i2,_⟩:=mv b8 hg;refine main _ i1 i2 (λNb=> ?_);obtain⟨j1,j2,_⟩:=b8.obj n _ hg;rw[eL Nb]at j1;by_cases hz:0<ys.length
   ·obtain⟨t3,U,L⟩:=j1.Hy hz;rw[j2];exact L.cap
   ·omega
  |_=>simp at h
 |inn n i j=>
  obtain⟨ob,hg,h⟩:=Rd.bind_some h;have hg:=dp hg;cases ob with
  |row e' ex ys=>
   cases ex with
   |false=>simp at h
   |true=>
   obtain⟨te,ht,h⟩:=Rd.bind_some h;have ht:=dP ht;split at h
   ·rename_i e2 zv;obtain⟨rfl,rfl⟩:=bU (aF h);obtain⟨⟨lL,hx⟩,_⟩:=hx;obtain⟨⟨tj,htj,fT,mc⟩,fS,_⟩:=b8.obj n _ hg;obtain rfl:te=tj:=aF (ht.symm.trans htj);obtain⟨zs,y',hy,hyj,uu,_,tk,E_,rD,JB,CD,n9⟩:=tw (c:=c) fS mc lL zv;rw[e7 hy hyj];cases hq:(c.G n i j).nil with
    |true=>rw[hx,mV hq,show ju (.l e2 zs)=zs from rfl,(n9.nil hq).1];exact⟨_,_,rfl⟩
    |false=>rw[hx,eL hq,n9.n];exact⟨_,_,rfl⟩
   ·simp at h
  |_=>simp at h
 |_=>simp[lV]at h
theorem mm{cl:Call}{b:Builtin}(ho:o.op= .call cl)(hb:cl.callee= .builtin b):
  ∃cs,(execOp a.eval o).run P w=(builtin b cl.argTypes o.type cs (cl.args.map a.eval)).run P w:=by unfold execOp;rw[ho];simp only[resolve,hb,cg,cL,bB,invoke];exact⟨_,rfl⟩
theorem mT{α:Type}{x:de α}{y:α}(h:x.toList=[y]):x= #[y]:=by apply rI;simpa using h
theorem BP{α:Type}{x:de α}{y z:α}(h:x.toList=[y,z]):x= #[y,z]:=by apply rI;simpa using h
theorem acv(hE:dZ P E)(b8:Ok E σ w c)(dA:eZ E σ a w c)(hd:∀d,o.dst=aj d->d<a.tmps.size){cl:Call}(ho:o.op= .call cl)(hb:cl.callee= .builtin .len)(h:(lG E nm o).val σ=aj e):gA P E σ a w c o e.ws:=by
 simp only[lG,ho,hb]at h;split at h
 ·rename_i x t hx ht;obtain⟨k,hk,h⟩:=Rd.bind_some h;obtain⟨v,h1,h⟩:=Rd.bind_some h;obtain⟨n,h2,h⟩:=Rd.bind_some h;obtain⟨ev,kv⟩:=iI dA h1;have hx:=mT hx;have ht:=mT ht;have exec:∀r,(vf #[t] o.type #[a.eval x]).run P w= .ok r w->(execOp a.eval o).run P w= .ok (.value r) w:=by intro r hr;obtain⟨cs,F_⟩:=mm (P:=P) (a:=a) (w:=w) ho hb;rw[F_,hx,ht];simp only[builtin,Cf,eW,Av];exact iE hr
  have fin:∀m:aG,n=m->(vf #[t] o.type #[a.eval x]).run P w= .ok (goInt m) w->gA P E σ a w c o e.ws:=by intro m hm hr;subst hm;exact fL b8 dA hd h (v:=goInt m) rfl (λn hn=>by simp[cD,bI]at hn) (exec _ hr)
  cases k with
  |s=>cases v with
   |s s=>obtain rfl:=aF h2;have ev:a.eval x= .string s:=ev.1;exact fin s.size rfl (by rw[ev];simp[vf,run_underlying (kJ hE hk)])
   |_=>simp[abY]at h2
  |l el=>
   have hu:=ka hE hk;have sl:∀A (m:aG) cp,a.eval x= .slice A m cp->n=m->gA P E σ a w c o e.ws:=by intro A m cp hv hn;exact fin m hn (by rw[hv];simp[vf,run_underlying hu])
   have gen:∀(el':aG) (xs:aX),(lV E v).val σ=aj (el',xs)->n=xs.length->gA P E σ a w c o e.ws:=by intro el' xs hr hn;obtain⟨A,cp,hv⟩:=NJ b8 ev hr;exact sl _ _ _ hv hn
   cases v with
   |nl=>obtain rfl:=aF h2;exact sl ao 0 0 ev rfl
   |vw m lo hi=>
    obtain⟨ob,hg,h2⟩:=Rd.bind_some h2;have hg:=dp hg;have r1:∃(e1:aG) (ys:aX),(lV E (.vw m lo hi)).val σ=aj (e1,eP ys lo hi)/\(c.P m).n=ys.length/\n=((hi-lo:aG):aA):=by
     cases ob with
     |row e1 ex ys=>exact⟨e1,ys,by simp[lV,jl,hg],(kL b8 hg).1,(aF h2).symm⟩
     |fE e1 ys=>exact⟨e1,ys,by simp[lV,jl,hg],(mv b8 hg).1,(aF h2).symm⟩
     |_=>simp at h2
    obtain⟨e1,ys,h5,h6,h7⟩:=r1;refine gen e1 _ h5 ?_;rw[lS (by have:=ev.2.1;omega)];exact h7
   |_=>obtain⟨⟨el',xs⟩,hr,h3⟩:=Rd.bind_some h2;obtain rfl:=aF h3;exact gen el' xs hr rfl
  |_=>simp[abY]at h2
 ·simp at h
end
end Go.FG

namespace Go.FG
section
variable {P:cQ} {E:fB} {σ:St} {a:Act} {w:bF} {c:eK} {o:eV} {nm:aG} {e:rX}
theorem yr{α:Type}{x:aD α}{σ:St}{r:α}(h:(RQ x).val σ=aj r):x=aj r:=by
 cases x with
 |none=>simp[RQ]at h
 |some y=>exact h
theorem acu(hE:dZ P E)(b8:Ok E σ w c)(dA:eZ E σ a w c)(hd:∀d,o.dst=aj d->d<a.tmps.size){cl:Call}(ho:o.op= .call cl)(hb:cl.callee= .builtin .cap)(h:(lG E nm o).val σ=aj e):gA P E σ a w c o e.ws:=by
 simp only[lG,ho,hb]at h;split at h
 ·rename_i x t hx ht;obtain⟨k,hk,h⟩:=Rd.bind_some h;have hx:=mT hx;have ht:=mT ht;cases k with
  |l el=>
   obtain⟨v,h1,h⟩:=Rd.bind_some h;obtain⟨ev,kv⟩:=iI dA h1;have hu:=ka hE hk;cases v with
   |nl=>refine fL b8 dA hd h (v:=goInt 0) rfl (λn hn=>by simp[cD,bI]at hn) ?_;obtain⟨cs,F_⟩:=mm (P:=P) (a:=a) (w:=w) ho hb;rw[F_,hx,ht];simp only[builtin,Cf,eW,Av];refine iE ?_;rw[show a.eval x= .slice ao 0 0 from ev];simp[Builtin.cap_,run_underlying hu]
   |_=>simp at h
  |_=>simp at h
 ·simp at h
theorem JK(dA:eZ E σ a w c)(mx:aY):∀(r:az dn) (k:mI) (n:aA) (v:AV),(v5 mx r k n).val σ=aj v->
  ∃m,v= .i k m/\((r.map a.eval).foldlM (if mx then CU else CW) (.int k n)).run P w= .ok (.int k m) w:=by
 intro r;induction r with
 |nil=>intro k n v h;obtain rfl:=aF h;exact⟨n,rfl,rfl⟩
 |cons x r ih=>
  intro k n v h;obtain⟨⟨k2,m⟩,h1,h2⟩:=Rd.bind_some h;have hx:=pB dA h1;obtain⟨q,hq,hr⟩:=ih k (k8 mx n m) v h2;refine⟨q,hq, ?_⟩
  simp only[eW,List.foldlM_cons,cg,hx];cases mx with
  |true=>
   have:(CU (.int k n) (.int k2 m)).run P w= .ok (.int k (k8 ak n m)) w:=by simp[CU,k8]
   simp only[if_true,this,bB]at hr⊢;exact hr
  |false=>
   have:(CW (.int k n) (.int k2 m)).run P w= .ok (.int k (k8 aq n m)) w:=by simp[CW,k8]
   simp only[dj,if_false,this,bB]at hr⊢;exact hr
theorem DE(mx:aY)(b8:Ok E σ w c)(dA:eZ E σ a w c)(hd:∀d,o.dst=aj d->d<a.tmps.size){cl:Call}(ho:o.op= .call cl)(hb:cl.callee= .builtin (if mx then .max else .min))(h:(lG E nm o).val σ=aj e):gA P E σ a w c o e.ws:=by
 have main:∀x r,cl.args.toList=x::r->((Bp x).bind λ(k,n)=>(v5 mx r k n).bind λv=>yC o v).val σ=aj e->gA P E σ a w c o e.ws:=by
  intro x r hx h;obtain⟨⟨k,n⟩,h1,h⟩:=Rd.bind_some h;obtain⟨v,h2,h⟩:=Rd.bind_some h;have ex:=pB dA h1;obtain⟨m,rfl,hr⟩:=JK (P:=P) dA mx r k n v h2;refine fL b8 dA hd h (v:= .int k m) rfl (λn hn=>by simp[cD,bI]at hn) ?_;obtain⟨cs,F_⟩:=mm (P:=P) (a:=a) (w:=w) ho hb;have rB:cl.args.map a.eval=((x::r).map a.eval).toArray:=by rw[<-hx];apply rI;simp
  rw[F_,rB];cases mx with
  |true=>simp only[if_true,builtin];refine iE ?_;simp only[Builtin.max_,eW,ex];exact hr
  |false=>simp only[dj,if_false,builtin];refine iE ?_;simp only[Builtin.min_,eW,ex];exact hr
 cases mx with
 |true=>
  simp only[lG,ho,hb,if_true]at h;split at h
  ·rename_i x r hx;exact main x r hx h
  ·simp at h
 |false=>
  simp only[lG,ho,hb,dj,if_false]at h;split at h
  ·rename_i x r hx;exact main x r hx h
  ·simp at h
theorem Sh{op:BinOp}{t:aG}{k:mI}{m n:aA}{b:aY}{v:AV}(hs:Nh op=aq)(h:aaX op k m n=aj (b,v))(hb:b=ak):
  ∃u,ea E w c v u/\bI v=[]/\(binOp op t (.int k m) (.int k n)).run P w= .ok u w:=by
 subst hb;cases op<;>simp only[aaX,jf,iR,true_and,reduceCtorEq]at h<;>first|(simp[Nh]at hs;done)|skip
 case quo=>
  obtain⟨h1,rfl⟩:=h
  have hn:¬n=0:=by simpa using h1
  exact⟨_,rfl,rfl,by simp[binOp,Op.intDiv,hn]⟩
 case rem=>
  obtain⟨h1,rfl⟩:=h
  have hn:¬n=0:=by simpa using h1
  exact⟨_,rfl,rfl,by simp[binOp,Op.intDiv,hn]⟩
 all_goals (subst h;exact⟨_,rfl,rfl,by simp[binOp,Op.intArith,Op.intBits,Op.intCmp]⟩)
theorem Si{op:BinOp}{t:aG}{m n:au}{b:aY}{v:AV}(hs:Nh op=aq)(h:aaZ op m n=aj (b,v))(hb:b=ak):
  ∃u,ea E w c v u/\bI v=[]/\(binOp op t (.string m) (.string n)).run P w= .ok u w:=by
 subst hb;cases op<;>simp only[aaZ,jf,iR,true_and,reduceCtorEq]at h<;>first|(simp[Nh]at hs;done)|skip
 case add=>
  obtain⟨h1,rfl⟩:=h
  have h1:=b9 h1
  refine⟨_,⟨rfl,by unfold Gc;rw[dz];omega⟩,rfl, ?_⟩
  have:¬(((m.size+n.size:aG):aA)>ar.max):=by
   have:ar.max=9223372036854775807:=by decide
   omega
  simp only[binOp,Op.stringOp,bL this,cL]
 all_goals (subst h;exact⟨_,rfl,rfl,by simp[binOp,Op.stringOp]⟩)
theorem wh{op:BinOp}{t:aG}{x y:dn}{u v:bg}(hu:∀xs,u≠ .agg xs)(hn:u≠ .nilIface):(eqGuard op t x y u v).run P w= .ok () w:=by unfold eqGuard;cases op<;>cases u<;>first|rfl|(exact cq rfl (hu _))|(exact cq rfl hn)|(cases v<;>rfl)
theorem wg{P:cQ}(w:bF){t:aG}(h:P.underlying t=aj .bool)(m n:aY):(binOp .eql t (.bool m) (.bool n)).run P w= .ok (.bool (m==n)) w/\(binOp .neq t (.bool m) (.bool n)).run P w= .ok (.bool !(m==n)) w:=by
 have h1:(Op.equal t (.bool m) (.bool n)).run P w= .ok (m==n) w:=by show(Op.equalIn (9999+1) t (.bool m) (.bool n)).run P w=_;exact run_equalIn_bool w 9999 t m n h
 simp only[binOp,cg,h1,bB,cL];exact⟨trivial,trivial⟩
theorem BB{xs:az AV}{ks:az Ck}(hk:xs.map Fb=ks)(hp:plain ks=ak){vals:de bg}(hs:vals.size=xs.length)(hv:∀(j:aG) (a:AV),xs[j]? =aj a->∃u:bg,vals[j]? =aj u/\ea E w c a u):vals=(xs.map lA).toArray:=by
 apply rI;apply TF;intro j;simp only[cO,bE];cases hx:xs[j]? with
 |none=>have:=List.getElem?_eq_none_iff.1 hx;simp;omega
 |some a=>
  obtain⟨u,hu,ha⟩:=hv j a hx;rw[hu];have hm:Fb a∈ks:=by rw[<-hk];exact cG.2 ⟨a,aQ hx,rfl⟩
  have mD:=bn.1 hp _ hm;cases a<;>simp[Fb]at mD<;>first|(have h1:u=_:=ha;rw[h1];rfl)|(have h1:u=_:=ha.1;rw[h1];rfl)
theorem Uu(hE:dZ P E){op:BinOp}{t:aG}{x y:dn}{sx sy:SV}{ux uy:bg}(ex:iU E w c sx ux)(ey:iU E w c sy uy){b:aY}{v:AV}(h3:(aaY E t op sx sy).val σ=aj (b,v))(hc:b=ak):
  ∃u,ea E w c v u/\bI v=[]/\(do eqGuard op t x y ux uy;binOp op t ux uy).run P w= .ok u w:=by
 have fin:∀u,ea E w c v u->bI v=[]->(do eqGuard op t x y ux uy;binOp op t ux uy).run P w= .ok u w->∃u,ea E w c v u/\bI v=[]/\(do eqGuard op t x y ux uy;binOp op t ux uy).run P w= .ok u w:=
  λu hu hn hr=>⟨u,hu,hn,hr⟩
 have pl:∀u1 u2 r,ux=u1->uy=u2->(∀xs,u1≠ .agg xs)->u1≠ .nilIface->(binOp op t u1 u2).run P w= .ok r w->(do eqGuard op t x y ux uy;binOp op t ux uy).run P w= .ok r w:=by intro u1 u2 r h1 h2 h3 h4 h5;rw[h1,h2];simp only[cg,wh (P:=P) (w:=w) (op:=op) (t:=t) (x:=x) (y:=y) (v:=u2) h3 h4,bB,h5]
 unfold aaY at h3;split at h3
 ·rename_i p q;have ex:ea E w c p ux:=ex;have ey:ea E w c q uy:=ey;cases mc:Nh op with
  |true=>
   rw[mc]at h3;replace h3:=yr h3;cases p<;>cases q<;>first|(simp[shV]at h3;done)|skip
   cases op<;>simp only[shV,jf,iR,reduceCtorEq]at h3<;>(obtain⟨rfl,rfl⟩:=h3)
   ·refine fin _ rfl rfl (pl _ _ _ ex ey (by simp) (by simp) ?_);have:¬(_:aA)<0:=Int.not_lt.2 (b9 hc);simp[binOp,Op.shift,this]
   ·refine fin _ rfl rfl (pl _ _ _ ex ey (by simp) (by simp) ?_);have:¬(_:aA)<0:=Int.not_lt.2 (b9 hc);simp[binOp,Op.shift,this]
  |false=>
   rw[mc]at h3;obtain⟨k,hk,h3⟩:=Rd.bind_some h3;replace h3:=yr h3;cases p with
   |i k1 m=>
    cases q with
    |i k2 n=>
     have h9:=h3;simp only[IX]at h9;split at h9
     ·rename_i QC;subst QC;obtain⟨u,hu,hn,hr⟩:=Sh (P:=P) (t:=t) (E:=E) (c:=c) (w:=w) mc h9 hc;exact fin u hu hn (pl _ _ _ ex ey (by simp) (by simp) hr)
     ·cases h9
    |_=>simp[IX]at h3
   |s m=>
    cases q with
    |s n=>obtain⟨u,hu,hn,hr⟩:=Si (P:=P) (t:=t) (E:=E) (c:=c) (w:=w) mc h3 hc;exact fin u hu hn (pl _ _ _ ex.1 ey.1 (by simp) (by simp) hr)
    |_=>simp[IX]at h3
   |b m=>
    cases q with
    |b n=>
     have XZ:k= .b->P.underlying t=aj .bool:=by rintro rfl;obtain⟨ti,q1,q2,q3⟩:=qU hk;obtain⟨d,X2,_,hn⟩:=hE.desc t ti q1;rcases hn q2 with ⟨k,h,_⟩|⟨h,rfl⟩|⟨h,_⟩|⟨e',h,_⟩|⟨h,_⟩<;>rw[q3]at h<;>simp_all
     cases op<;>cases k<;>simp only[IX,jf,iR,reduceCtorEq]at h3<;>(obtain⟨rfl,rfl⟩:=h3)
     ·refine fin _ rfl rfl (pl _ _ _ ex ey (by simp) (by simp) ?_);exact(wg (P:=P) w (XZ rfl) _ _).1
     ·refine fin _ rfl rfl (pl _ _ _ ex ey (by simp) (by simp) ?_);exact(wg (P:=P) w (XZ rfl) _ _).2
    |_=>simp[IX]at h3
   |_=>simp[IX]at h3
 ·rename_i xs ys;obtain⟨ti,ht,h3⟩:=Rd.bind_some h3;have ht:=dP ht;obtain⟨h4,h3⟩:=cE h3;simp only[aK]at h4;obtain⟨⟨⟨⟨h5,h6⟩,h7⟩,h8⟩,h9⟩:=h4;have h7:=qS h7;have h8:=qS h8;replace h3:=yr h3;obtain⟨X,hX,sX,vX⟩:=ex;obtain⟨Y,hY,sY,vY⟩:=ey;have eX:=BB h7 h9 sX vX;have eY:=BB h8 h9 sY vY;cases hq:UH xs ys with
  |none=>rw[hq]at h3;cases h3
  |some r=>
   rw[hq]at h3;obtain⟨r1,r2⟩:=hE.eq t ti h6 ht w x y xs ys r hq h7 h8;cases op<;>first|(simp[isEq]at h5;done)|skip
   ·obtain⟨_,rfl⟩:=bU (aF h3);exact fin _ rfl rfl (by rw[hX,hY,eX,eY];exact r1)
   ·obtain⟨_,rfl⟩:=bU (aF h3);exact fin _ rfl rfl (by rw[hX,hY,eX,eY];exact r2)
 ·simp at h3
theorem RF(hE:dZ P E)(b8:Ok E σ w c)(dA:eZ E σ a w c)(hd:∀d,o.dst=aj d->d<a.tmps.size){op:BinOp}{t ty:aG}{x y:dn}(ho:o.op= .binOp op t x y ty)(h:(lG E nm o).val σ=aj e)(hc:e.cond=ak):gA P E σ a w c o e.ws:=by simp only[lG,ho]at h;obtain⟨sx,h1,h⟩:=Rd.bind_some h;obtain⟨sy,h2,h⟩:=Rd.bind_some h;obtain⟨⟨b,v⟩,h3,h⟩:=Rd.bind_some h;obtain rfl:=aF h;obtain⟨u,hu,hn,hr⟩:=Uu (P:=P) (x:=x) (y:=y) hE (lN dA h1).1 (lN dA h2).1 h3 hc;refine gj b8 dA hd (s:= .v aq [v]) hu (λn j9=>by simp[cD,hn]at j9) ?_;unfold execOp;rw[ho];exact iE hr
end
end Go.FG

namespace Go.FG
theorem Km{p:Pl}(hn:p.nil=aq->p.n<=p.cap)(hz:p.nil=ak->p.n=0):vF p 0 p.n (lj p):=by
 refine⟨bK _,cu _,λh=>mV h,λh=> ?_⟩
 rw[eL h];by_cases hc:p.cap=0
 ·refine .inr ⟨hc.symm,p.off,Nat.le_add_right _ _, ?_⟩;have:=hn h;rw[hc,show p.n=0 by omega]
 ·refine .inl ⟨by omega, ?_⟩;simp
theorem qu(xs:aX):eP xs 0 xs.length=xs:=by unfold eP;simp
def nL(w:bF)(v:bg)(xs:aX)(sz:aG)(R:aG->aG->bg->CV->Prop):Prop:=
 ∃A cp,v= .slice A xs.length cp/\(xs≠[]->∃b o,A=aj (ad b o)/\∀(i:aG) (y:az CV) (j:aG) (x:CV),xs[i]? =aj y->y[j]? =aj x->∃u:bg,w.cell? (ad b (o+i*sz+j))=aj u/\R i j u x)
theorem nL.imp{w:bF}{v:bg}{xs:aX}{sz:aG}{R R':aG->aG->bg->CV->Prop}(h:nL w v xs sz R)(hR:∀(i:aG) (y:az CV) (j:aG) (x:CV) (u:bg),xs[i]? =aj y->y[j]? =aj x->R i j u x->R' i j u x):nL w v xs sz R':=by
 obtain⟨A,cp,h1,h2⟩:=h;refine⟨A,cp,h1,λh_=> ?_⟩
 obtain⟨b,o,h3,h4⟩:=h2 h_;refine⟨b,o,h3,λi y j x hi hj=> ?_⟩
 obtain⟨u,hu,hr⟩:=h4 i y j x hi hj;exact⟨u,hu,hR i y j x u hi hj hr⟩
theorem Kg{w:bF}{p:Pl}{xs:aX}{R:aG->aG->bg->CV->Prop}{lo hi:aG}{v:bg}(h:iT w p xs R)(hv:vF p lo hi v):nL w v (eP xs lo hi) p.sz (λi j u x=>R (lo+i) j u x):=by
 obtain⟨v1,v2,v3,v4⟩:=hv;have hl:=lS (xs:=xs) (lo:=lo) (hi:=hi) (by rw[<-h.n];exact v2);cases hq:p.nil with
 |true=>
  have hx:=(h.nil hq).1;have h0:=h.n;rw[hx]at h0;refine⟨ao,0, ?_,λh_=>cq (by rw[hx];unfold eP;simp) h_⟩
  rw[v3 hq,hl];have:p.n=0:=h0;congr 1;omega
 |false=>
  obtain⟨vals,hb,QF,Qy,nD,hc⟩:=h.mem hq;rcases v4 hq with ⟨u1,rfl⟩|⟨u1,oo,u2,rfl⟩
  ·refine⟨_,_,by rw[hl],λh_=>⟨_,_,rfl,λi y j x lE hj=> ?_⟩⟩
   rw[sS]at lE;split at lE
   ·obtain⟨u,hu,hr⟩:=hc (lo+i) y j x lE hj;refine⟨u, ?_,hr⟩
    rw[hb.cell,<-hu];congr 1;rw[da];omega
   ·cases lE
  ·have h0:hi-lo=0:=by omega
   refine⟨_,_,by rw[hl,h0],λh_=>cq (fQ (hl.trans h0)) h_⟩
theorem Hl{E:fB}{w:bF}{K:aG->Prop}{p:Pl}{e:aG}{te:TI}{xs:aX}(he:E.ty e=aj te)(h:cY E w K (lj p) (.l e xs))(hn:p.n=xs.length)(hs:p.sz=te.ks.length){lo hi:aG}{v:bg}(hv:vF p lo hi v):cY E w K v (.l e (eP xs lo hi)):=by
 obtain⟨v1,v2,v3,v4⟩:=hv;have hl:=lS (xs:=xs) (lo:=lo) (hi:=hi) (by rw[<-hn];exact v2);have nil:hi-lo=0->eP xs lo hi=[]:=λh0=>fQ (hl.trans h0);cases hq:p.nil with
 |true=>
  rw[mV hq]at h;have hx:xs=[]:=by cases h;rfl
  subst hx;have hn:p.n=0:=hn;rw[v3 hq,nil (by omega)];exact .nl _ _ _
 |false=>
  rw[eL hq]at h;rcases v4 hq with ⟨u1,rfl⟩|⟨u1,oo,u2,rfl⟩
  ·have:=(Dv (lo:=lo) (hi:=hi) he h v1 (by rw[<-hn];exact v2)).2;rw[bL (by omega)]at this;simpa only[iQ,Addr.nA,hs]using this
  ·by_cases hz:hi-lo=0
   ·rw[nil hz];exact .nl _ _ _
   ·have h1:0<xs.length:=by omega
    obtain⟨t3,U,L⟩:=h.Hy h1;have:=L.cap;omega
theorem yz{E:fB}{w:bF}{K:aG->Prop}{v:bg}{e:aG}{te:TI}{xs:aX}(he:E.ty e=aj te)(h:cY E w K v (.l e xs)):nL w v xs te.ks.length (λ_ _ u x=>cY E w K u x)/\∀y∈xs,y.map CV.kd=te.ks:=by
 cases h with
 |nl=>exact⟨⟨_,_,rfl,λh=>cq rfl h⟩,λy hy=>by cases hy⟩
 |l _ _ b o cp ti U ht hc hm hK hs hcell gO=>obtain rfl:te=ti:=aF (he.symm.trans ht);exact⟨⟨_,_,rfl,λ_=>⟨b,o,rfl,λi y j x hi hj=>⟨U i j,hcell i j y x hi hj,gO i j y x hi hj⟩⟩⟩,hs⟩
theorem oP{E:fB}{w:bF}{K:aG->Prop}{u:bg}{x:CV}(h:cY E w K u x)(hl:tc x=aq):Sc u x:=by
 cases h with
 |i=>exact⟨rfl,trivial⟩
 |b=>exact⟨rfl,trivial⟩
 |s _ h=>exact⟨rfl,h⟩
 |nl=>simp[tc]at hl
 |l=>simp[tc]at hl
theorem kj{E:fB}{w:bF}{K:aG->Prop}{u:bg}{x:CV}(hl:tc x=aq)(h:Sc u x):cY E w K u x:=by
 obtain⟨h1,h2⟩:=h;subst h1;cases x with
 |i k n=>exact .i k n
 |b x=>exact .b x
 |s x=>exact .s x h2
 |l=>simp[tc]at hl
theorem tC{E:fB}{w:bF}{G:aG->aG->Pl}{i j:aG}{u:bg}{x:CV}(h:XC E w G i j u x)(hl:tc x=aq):Sc u x:=by
 cases x with
 |l=>simp[tc]at hl
 |i=>exact h
 |b=>exact h
 |s=>exact h
theorem tz{E:fB}{w:bF}{G:aG->aG->Pl}{i j:aG}{u:bg}{x:CV}(hl:tc x=aq)(h:Sc u x):XC E w G i j u x:=by
 cases x with
 |l=>simp[tc]at hl
 |i=>exact h
 |b=>exact h
 |s=>exact h
theorem nL.list{w:bF}{v:bg}{xs:aX}{sz:aG}{R:aG->aG->bg->CV->Prop}(h:nL w v xs sz R)(hs:∀y∈xs,y.length=sz):
  ∃(A:aD Addr) (cp:aG) (news:az bg),v= .slice A xs.length cp/\news.length=xs.length*sz/\(xs=[]\/∃b o,A=aj (ad b o)/\∀j u,news[j]? =aj u->w.cell? (ad b (o+j))=aj u)/\
   ∀(i:aG) (y:az CV) (j:aG) (x:CV),xs[i]? =aj y->y[j]? =aj x->∃u:bg,news[i*sz+j]? =aj u/\R i j u x:=by
 obtain⟨A,cp,rfl,h2⟩:=h;by_cases hx:xs=[]
 ·subst hx;exact⟨A,cp,[],rfl,by simp, .inl rfl,λi y j x hi hj=>by simp at hi⟩
 ·obtain⟨b,o,h3,h4⟩:=h2 hx;have ex:∀q,q<xs.length*sz->∃u,w.cell? (ad b (o+q))=aj u:=by
   intro q hq;have fT:0<sz:=by rcases B0 sz with h|h;(subst h;simp at hq);exact h
   have hi:q/sz<xs.length:=by rw[wF fT];exact hq
   have hj:q%sz<xs[q/sz].length:=by rw[hs _ (bD hi)];exact B3 _ fT
   obtain⟨u,hu,_⟩:=h4 (q/sz) xs[q/sz] (q%sz) (xs[q/sz][q%sz]) (by simp[hi]) (by simp[hj]);refine⟨u, ?_⟩
   rw[<-hu];congr 2;have:=Ig q sz;rw[CY]at this;omega
  refine⟨A,cp,(cM (xs.length*sz)).map (λq=>(w.cell? (ad b (o+q))).getD undef),rfl,by simp, .inr ⟨b,o,h3,λj u hj=> ?_⟩,λi y j x hi hj=> ?_⟩
  ·rw[bE]at hj;by_cases jC:j<xs.length*sz
   ·obtain⟨u',rE⟩:=ex j jC;simp only[jC,uD,iQ,rE,wV,jf]at hj;rw[rE,hj]
   ·rw[kB (l:=cM (xs.length*sz)) (by simpa using jC)]at hj;cases hj
  ·obtain⟨u,hu,hr⟩:=h4 i y j x hi hj;refine⟨u, ?_,hr⟩
   have hil:=(aU.1 hi).1;have jC:=(aU.1 hj).1;rw[hs y (aQ hi)]at jC;have jD:i*sz+j<xs.length*sz:=by have:(i+1)*sz<=xs.length*sz:=b7 _ hil;rw[da]at this;omega
   rw[bE,uD jD,iQ];rw[show o+(i*sz+j)=o+i*sz+j by omega,hu];rfl
section
variable {P:cQ} {E:fB} {σ:St} {a:Act} {w:bF} {c:eK} {o:eV} {nm:aG} {e:rX}
theorem wc(b8:Ok E σ w c){nm e:aG}{ex:aY}{xs:aX}(h:σ (cW nm)= .o (.row e ex xs)){lo hi:aG}{v:bg}(hv:vF (c.P nm) lo hi v):
  ∃te,E.ty e=aj te/\(∀y∈eP xs lo hi,y.map CV.kd=te.ks)/\nL w v (eP xs lo hi) te.ks.length (λi j u x=>if ex=ak then XC E w (c.G nm) (lo+i) j u x else cY E w c.K u x):=by obtain⟨⟨ti,h1,h2,h3⟩,h4,_⟩:=b8.obj nm _ h;have:=Kg h4 hv;rw[h2]at this;exact⟨ti,h1,λy hy=>h3 y (Bh hy),this⟩
theorem va(b8:Ok E σ w c){nm e:aG}{ex:aY}{xs:aX}(h:σ (cW nm)= .o (.row e ex xs)):vF (c.P nm) 0 xs.length (lj (c.P nm)):=by obtain⟨h1,h2,ti,h3,h4,h5⟩:=kL b8 h;rw[<-h1];exact Km (λhn=>(h5 hn).1) (λhn=>by rw[h1,h2 hn];rfl)
theorem G_(b8:Ok E σ w c){nm e:aG}{xs:aX}(h:σ (cW nm)= .o (.fE e xs)):vF (c.P nm) 0 xs.length (lj (c.P nm)):=by
 obtain⟨h1,h2,ti,h3,h4⟩:=mv b8 h;rw[<-h1];refine Km (λhn=> ?_) (λhn=>by rw[h1,h2 hn];rfl);obtain⟨j1,j2,_⟩:=b8.obj nm _ h;rw[eL hn]at j1;by_cases hz:0<xs.length
 ·obtain⟨t3,U,L⟩:=j1.Hy hz;rw[j2];exact L.cap
 ·omega
theorem oO(b8:Ok E σ w c){nm e:aG}{xs:aX}(h:σ (cW nm)= .o (.fE e xs)){lo hi:aG}{v:bg}(hv:vF (c.P nm) lo hi v):cY E w c.K v (.l e (eP xs lo hi)):=by obtain⟨h1,h2,ti,h3,h4⟩:=b8.obj nm _ h;exact Hl h3 h1 h2 h4 hv
theorem zV(b8:Ok E σ w c){nm e e2 i j:aG}{xs:aX}{te:TI}(h:σ (cW nm)= .o (.row e ak xs))(ht:E.ty e=aj te)(hk:te.ks[j]? =aj (.l e2))(hi:i<(c.P nm).n):
  ∃ys y t2,xs[i]? =aj y/\y[j]? =aj (.l e2 ys)/\E.ty e2=aj t2/\plain t2.ks=ak/\(c.G nm i j).sz=t2.ks.length/\(∀y∈ys,y.map CV.kd=t2.ks)/\iT w (c.G nm i j) ys (λ_ _ u x=>Sc u x)/\vF (c.G nm i j) 0 ys.length (lj (c.G nm i j)):=by
 obtain⟨⟨tj,htj,fT,mc⟩,fS,_⟩:=b8.obj nm _ h;obtain rfl:te=tj:=aF (ht.symm.trans htj);obtain⟨zs,y,hy,hyj,uu,_,tk,E_,rD,JB,CD,n9⟩:=tw (c:=c) fS mc hi hk;refine⟨zs,y,tk,hy,hyj,E_,rD,JB,CD,n9, ?_⟩
 have:=Km (p:=c.G nm i j) (λhn=>by obtain⟨_,_,q,_⟩:=n9.mem hn;exact q) (λhn=>by rw[n9.n,(n9.nil hn).1];rfl);rwa[n9.n]at this
theorem Nc{E:fB}{w:bF}{K:aG->Prop}{v:bg}{e:aG}{xs:aX}(h:cY E w K v (.l e xs)):xs.length<=maxLen:=by
 cases h with
 |nl=>exact bK _
 |l _ _ b o cp ti U ht hc hm=>exact c_ hc hm
theorem tv{w:bF}{p:Pl}{xs:aX}{R:aG->aG->bg->CV->Prop}(h:iT w p xs R):xs.length<=maxLen:=by
 cases hn:p.nil with
 |true=>rw[(h.nil hn).1];exact bK _
 |false=>obtain⟨vals,_,h2,h3,_⟩:=h.mem hn;rw[<-h.n];exact c_ h2 h3
theorem Ia(xs:aX)(lo hi:aG):(eP xs lo hi).length<=xs.length:=by unfold eP;simp;omega
theorem za(b8:Ok E σ w c){x:AV}{v:bg}(hx:ea E w c x v){el:aG}{xs:aX}{te:TI}(h:(lV E x).val σ=aj (el,xs))(ht:E.ty el=aj te)(hp:plain te.ks=ak):
  nL w v xs te.ks.length (λ_ _ u x=>Sc u x)/\(∀y∈xs,y.map CV.kd=te.ks)/\xs.length<=maxLen:=by
 have ofH:∀{xs:aX} {v:bg},cY E w c.K v (.l el xs)->nL w v xs te.ks.length (λ_ _ u x=>Sc u x)/\(∀y∈xs,y.map CV.kd=te.ks)/\xs.length<=maxLen:=by intro xs v hh;obtain⟨h1,h2⟩:=yz ht hh;exact⟨h1.imp λi y j x u hi hj hr=>oP hr (gV hp (h2 y (aQ hi)) hj),h2,Nc hh⟩
 have ofR:∀{nm:aG} {ex:aY} {xs:aX} {lo hi:aG} {v:bg},σ (cW nm)= .o (.row el ex xs)->vF (c.P nm) lo hi v->nL w v (eP xs lo hi) te.ks.length (λ_ _ u x=>Sc u x)/\(∀y∈eP xs lo hi,y.map CV.kd=te.ks)/\(eP xs lo hi).length<=maxLen:=by
  intro nm ex xs lo hi v hg hv;obtain⟨t2,q1,q2,q3⟩:=wc b8 hg hv;obtain rfl:te=t2:=aF (ht.symm.trans q1);refine⟨q3.imp λi y j x u hi hj hr=> ?_,q2,c_ (Ia _ _ _) (tv (b8.obj nm _ hg).at_)⟩
  have hl:=gV hp (q2 y (aQ hi)) hj;split at hr
  ·exact tC hr hl
  ·exact oP hr hl
 cases x with
 |sh e' ys=>obtain⟨rfl,rfl⟩:=bU (aF h);exact ofH hx
 |own n=>
  obtain⟨ob,hg,h⟩:=Rd.bind_some h;have hg:=dp hg;have hx:v=lj (c.P n):=hx;subst hx;cases ob with
  |row e' ex ys=>obtain⟨rfl,rfl⟩:=bU (aF h);have:=ofR hg (va b8 hg);rwa[qu]at this
  |fE e' ys=>obtain⟨rfl,rfl⟩:=bU (aF h);have:=ofH (oO b8 hg (G_ b8 hg));rwa[qu]at this
  |_=>simp at h
 |vw n lo hi=>
  obtain⟨ob,hg,h⟩:=Rd.bind_some h;have hg:=dp hg;cases ob with
  |row e' ex ys=>obtain⟨rfl,rfl⟩:=bU (aF h);exact ofR hg hx
  |fE e' ys=>obtain⟨rfl,rfl⟩:=bU (aF h);exact ofH (oO b8 hg hx)
  |_=>simp at h
 |inn n i j=>
  obtain⟨ob,hg,h⟩:=Rd.bind_some h;have hg:=dp hg;cases ob with
  |row e' ex ys=>
   cases ex with
   |false=>simp at h
   |true=>
   obtain⟨t1,ht1,h⟩:=Rd.bind_some h;have ht1:=dP ht1;split at h
   ·rename_i e2 zv;obtain⟨rfl,rfl⟩:=bU (aF h);obtain⟨⟨lL,hx⟩,_⟩:=hx;obtain⟨zs,y,t2,q1,q2,q3,q4,q5,q6,q7,q8⟩:=zV b8 hg ht1 zv lL;obtain rfl:te=t2:=aF (ht.symm.trans q3);rw[e7 q1 q2];have:=Kg q7 q8;rw[qu,q5]at this;subst hx;exact⟨this,q6,tv q7⟩
   ·simp at h
  |_=>simp at h
 |_=>simp[lV]at h
end
end Go.FG

namespace Go.FG
def fM(E:fB)(w:bF)(c:eK)(vals:de bg)(xs:az AV):Prop:=
 vals.size=xs.length/\∀(j:aG) (a:AV),xs[j]? =aj a->∃u:bg,vals[j]? =aj u/\ea E w c a u
theorem pO.cells{E:fB}{w:bF}{c:eK}{agg:aY}{xs:az AV}{v:bg}(h:pO E w c agg xs v):fM E w c v.cells xs:=by
 unfold pO at h;split at h
 ·rename_i a;rw[Df h.one];refine⟨rfl,λj a' hj=> ?_⟩
  cases j with
  |zero=>simp at hj;subst hj;exact⟨v,rfl,h⟩
  |succ=>simp at hj
 ·obtain⟨vals,rfl,hs,hv⟩:=h;exact⟨hs,hv⟩
 ·exact h.elim
theorem fM.one{E:fB}{w:bF}{c:eK}{xs:az AV}{vals:de bg}(h:fM E w c vals xs):∀u∈vals.toList,u.oneCell'=true:=by
 intro u hu;obtain⟨j,hj⟩:=bZ hu;have jD:j<xs.length:=by rw[<-h.1];have:=(aU.1 hj).1;simpa using this
 obtain⟨u',h1,h2⟩:=h.2 j xs[j] (by simp[jD]);rw[cO,h1]at hj;cases hj;exact h2.one
theorem uj{α:Type}{xs ys:az α}{j:aG}(h:j+ys.length<=xs.length):(iF xs j ys).length=xs.length:=by unfold iF;simp;omega
theorem oU{α:Type}{xs ys:az α}{j:aG}(h:j+ys.length<=xs.length)(k:aG):(iF xs j ys)[k]? =if j<=k/\k<j+ys.length then ys[k-j]? else xs[k]? :=by
 unfold iF;by_cases h1:k<j
 ·rw[bL (by omega),cj,dg (by simp;omega),dR,bC h1]
 ·by_cases h2:k<j+ys.length
  ·rw[bC ⟨by omega,h2⟩,cj,cZ (by simp;omega),dg (by simp;omega)];congr 1;simp;omega
  ·rw[bL (by omega),cj,cZ (by simp;omega),cZ (by simp;omega),dJ];congr 1;simp;omega
theorem Bg{α:Type}{xs ys:az α}{j:aG}{x:α}(h:x∈iF xs j ys):x∈xs\/x∈ys:=by
 unfold iF at h;simp only[a_]at h;rcases h with (h|h)|h
 ·exact .inl (kD h)
 ·exact .inr h
 ·exact .inl (kC h)
theorem fM.put{E:fB}{w:bF}{c:eK}{xs ys:az AV}{vals vs:de bg}(h:fM E w c vals xs)(h':fM E w c vs ys){j:aG}(hl:j+ys.length<=xs.length):fM E w c (dV vals j vs.toList) (iF xs j ys):=by
 have hb:j+vs.toList.length<=vals.size:=by rw[h.1,dK,h'.1];exact hl
 refine⟨by rw[eO hb,uj hl];exact h.1,λk a hk=> ?_⟩
 rw[oU hl]at hk;rw[fY hb,dK,h'.1];split at hk
 ·rename_i hc;rw[bC hc,cO];exact h'.2 _ a hk
 ·rename_i hc;rw[bL hc];exact h.2 k a hk
theorem Qp(off:aG):∀(l:az bg) (k:aG) (cells:de bg),off+k+l.length<=cells.size->
  ((l.zipIdx k).foldl (λr p=>r.setIfInBounds (off+p.2) p.1) cells).size=cells.size/\
  ∀q:aG,((l.zipIdx k).foldl (λr p=>r.setIfInBounds (off+p.2) p.1) cells)[q]? =if off+k<=q/\q<off+k+l.length then l[q-(off+k)]? else cells[q]? :=by
 intro l;induction l with
 |nil=>intro k cells _;refine⟨rfl,λq=> ?_⟩;rw[bL (by simp)];rfl
 |cons v rest ih=>
  intro k cells hl;simp only[c5]at hl;obtain⟨h1,h2⟩:=ih (k+1) (cells.setIfInBounds (off+k) v) (by simp;omega);simp only[List.zipIdx_cons,Ce];refine⟨by rw[h1];simp,λq=> ?_⟩
  rw[h2 q];by_cases hq:q=off+k
  ·subst hq;rw[bL (by omega),bC ⟨by omega,by simp⟩,nJ,bC rfl,bC (by omega)];simp
  ·by_cases hr:off+(k+1)<=q/\q<off+(k+1)+rest.length
   ·rw[bC hr,bC ⟨by omega,by simp;omega⟩];rw[show q-(off+k)=(q-(off+(k+1)))+1 by omega,dF]
   ·rw[bL hr,bL (by simp;omega),nJ,bL (λh=>hq h.symm)]
theorem Dn{off:aG}{vs cells:de bg}(h:off+vs.size<=cells.size):(vs.zipIdx.foldl (λr (p:bg×aG)=>r.setIfInBounds (off+p.2) p.1) cells)=dV cells off vs.toList:=by
 rw[<-Array.foldl_toList,Array.toList_zipIdx];obtain⟨h1,h2⟩:=Qp off vs.toList 0 cells (by simpa using h);have hb:off+vs.toList.length<=cells.size:=by simpa using h
 apply Array.ext_getElem?;intro q;rw[h2 q,fY hb];simp
theorem NZ{E:fB}{w:bF}{c:eK}{k:Ck}(h:(match k with| .o=>aq|_=>ak)=ak):ea E w c (BV k) (ik k):=by cases k<;>first|rfl|exact⟨rfl,bK _⟩|simp at h
theorem Bj(k:Ck):bI (BV k)=[]:=by cases k<;>rfl
theorem Ie{E:fB}{w:bF}{c:eK}{ks:az Ck}(h:JO ks=ak):fM E w c (ks.map ik).toArray (ks.map BV):=by
 refine⟨by simp,λj a hj=> ?_⟩
 rw[bE]at hj;cases hk:ks[j]? with
 |none=>rw[hk]at hj;cases hj
 |some k=>rw[hk]at hj;cases hj;exact⟨ik k,by simp[hk],NZ (bn.1 h k (aQ hk))⟩
section
variable {P:cQ} {E:fB} {σ:St} {a:Act} {w:bF} {c:eK} {o:eV} {nm:aG} {e:rX}
theorem NC(hE:dZ P E)(dA:eZ E σ a w c){t:aG}{pl:az (aG×aG)}{size:aG}(rD:∀f o n,E.fo t f=aj (o,n)->pl[f]? =aj (o,n)/\o+n<=size):∀(ps:az (aG×dn)) (l:az (aG×az AV)),(Fq E t ps).val σ=aj l->
  ∀(vals:de bg) (xs:az AV),fM E w c vals xs->xs.length=size->(∀a∈xs,iS σ a)->
  ∃iM,oY (λi=>pl[i]?) vals (ps.map λ(i,x)=>(i,a.eval x))=aj iM/\fM E w c iM (Lj xs l)/\(∀a∈Lj xs l,iS σ a):=by
 intro ps;induction ps with
 |nil=>intro l h vals xs hv _ hk;obtain rfl:=aF h;exact⟨vals,rfl,hv,hk⟩
 |cons p r ih=>
  obtain⟨f,x⟩:=p;intro l h vals xs hv fT hk;obtain⟨v,h1,h⟩:=Rd.bind_some h;obtain⟨Nf,hkv⟩:=lN dA h1;cases v with
  |v g ys=>
   replace h:(match E.fo t f with|some (o,n)=>bif bA ys.length n then(Fq E t r).bind λl=> .ret ((o,ys)::l)else .fail|none=> .fail:Rd (az (aG×az AV))).val σ=aj l:=h;cases hf:E.fo t f with
   |none=>rw[hf]at h;simp at h
   |some q=>
    obtain⟨off,n⟩:=q;rw[hf]at h;obtain⟨hn,h⟩:=cE h;have hn:=aW hn;obtain⟨l',hl',h⟩:=Rd.bind_some h;obtain rfl:=aF h;obtain⟨Ng,hp2⟩:=rD f off n hf;have hc:=pO.cells Nf;have nD:off+ys.length<=xs.length:=by omega
    obtain⟨iM,q1,q2,q3⟩:=ih l' hl' (dV vals off (a.eval x).cells.toList) (iF xs off ys) (hv.put hc nD) (by rw[uj nD];exact fT)
     (λb hb=>by
      rcases Bg hb with hb|hb
      ·exact hk b hb
      ·exact λn hn=>hkv n (bG.2 ⟨b,hb,hn⟩))
    refine⟨iM, ?_,q2,q3⟩
    simp only[eW,oY,Ng];have c1:(a.eval x).cells.size=n:=by rw[hc.1,hn]
    have c2:¬(off+(a.eval x).cells.size>vals.size):=by rw[hc.1,hv.1];omega
    rw[bL (by simp[c1];rw[c1]at c2;omega)];have:=Dn (off:=off) (vs:=(a.eval x).cells) (cells:=vals) (by omega);rw[<-q1];exact ml (λz=>oY (λi=>pl[i]?) z _) this
  |jc=>simp at h
  |un=>simp at h
theorem RG(hE:dZ P E)(b8:Ok E σ w c)(dA:eZ E σ a w c)(hd:∀d,o.dst=aj d->d<a.tmps.size){t:aG}{ps:de (aG×dn)}(ho:o.op= .build t ps)(h:(lG E nm o).val σ=aj e):gA P E σ a w c o e.ws:=by simp only[lG,ho]at h;obtain⟨ti,h1,h⟩:=Rd.bind_some h;obtain⟨hb,h⟩:=cE h;obtain⟨l,h2,h⟩:=Rd.bind_some h;have ht:=dP h1;simp only[aK]at hb;obtain⟨uV,s_⟩:=hb;obtain⟨inf,hi,fT,_,_,hz⟩:=hE.info t ti ht;obtain⟨z,Io,CG,_⟩:=hz uV;obtain⟨d,X2,ha,_⟩:=hE.desc t ti ht;obtain⟨fs,rfl,Jw⟩:=ha s_;obtain⟨pl,Ng,hp2⟩:=hE.pl t ti ht s_ fs X2;obtain⟨vals,q1,q2,q3⟩:=NC (size:=ti.ks.length) hE dA (λf o n hf=>⟨hp2 f o n hf,(Jw f o n hf).choose_spec.2.2.2.2⟩) ps.toList l h2 _ _ (Ie (w:=w) (c:=c) (E:=E) uV) (by simp) (λb hb=>by obtain⟨k,_,rfl⟩:=cG.1 hb;exact td (Bj k));refine fL b8 dA hd h (v:= .agg vals) ⟨vals,rfl,q2.1,q2.2⟩ (λn hn=>by obtain⟨x,hx,hn⟩:=bG.1 hn;exact q3 x hx n hn) ?_;unfold execOp;rw[ho];refine iE (run_build w t _ vals ?_);simp only[Program.built,hi,X2,Io,Ng,CG,gQ,zd];exact q1
theorem RI(hE:dZ P E)(b8:Ok E σ w c)(dA:eZ E σ a w c)(hd:∀d,o.dst=aj d->d<a.tmps.size){t f:aG}{x:dn}(ho:o.op= .field t x f)(h:(lG E nm o).val σ=aj e):gA P E σ a w c o e.ws:=by
 simp only[lG,ho]at h;obtain⟨v,h1,h⟩:=Rd.bind_some h;obtain⟨hv,hk⟩:=lN dA h1;cases v with
 |v g xs=>
  cases g with
  |true=>
   cases hf:E.fo t f with
   |none=>rw[hf]at h;simp at h
   |some r=>
    obtain⟨j,n⟩:=r;rw[hf]at h;obtain⟨hb,h⟩:=cE h;rw[aK]at hb;cases hx:xs.drop j with
    |nil=>rw[hx]at h;simp at h
    |cons y ys=>
     rw[hx]at h;have hj:xs[j]? =aj y:=by have:=dJ (xs:=xs) (i:=j) (j:=0);rw[hx]at this;simpa using this.symm
     obtain⟨vals,q1,q2,q3⟩:∃vals:de bg,a.eval x= .agg vals/\vals.size=xs.length/\∀(j:aG) (b:AV),xs[j]? =aj b->∃u:bg,vals[j]? =aj u/\ea E w c b u:=hv;obtain⟨u,hu,TQ⟩:=q3 j y hj;obtain⟨ti,ht,s_⟩:=hE.fo t f j n hf;obtain⟨d,X2,ha,_⟩:=hE.desc t ti ht;obtain⟨fs,rfl,Jw⟩:=ha s_;obtain⟨fd,g1,g2,_⟩:=Jw f j n hf;have hAg:=hE.fl t f hb.1 fs fd X2 g1 w;refine fL b8 dA hd h (s:= .v aq [y]) (v:=u) TQ (λm hm=>hk m (bG.2 ⟨y,aQ hj,by simpa [cD]using hm⟩)) ?_;unfold execOp;rw[ho];refine iE ?_;simp only[Instr.field,cg,run_underlying X2,bB,g1,q1,asAgg,cL,part,hAg,dj,if_false,g2,hu]
  |false=>simp at h
 |jc=>simp at h
 |un=>simp at h
theorem RE(hE:dZ P E)(b8:Ok E σ w c)(dA:eZ E σ a w c)(hd:∀d,o.dst=aj d->d<a.tmps.size){t:aG}(ho:o.op= .alloc t)(h:(lG E nm o).val σ=aj e):gA P E σ a w c o e.ws:=by
 simp only[lG,ho]at h;obtain⟨ti,h1,h⟩:=Rd.bind_some h;obtain⟨hb,h⟩:=cE h;obtain⟨u,h2,h⟩:=Rd.bind_some h;obtain⟨hf,jD⟩:=j8 h2;obtain rfl:=aF h;have hr:=NL (P:=P) w hE (dP h1) hb;refine A6 b8 dA hd (p:=⟨aq,w.heap.size,0,0,0,0⟩) (g:=λ_ _=>⟨aq,0,0,0,0,0⟩) hf jD (λc' hP _ _ _=> ?_) (λc' hP _ b hb=> ?_) (λxs hx b hb=> ?_) (λc' hP _=> ?_) (λn hn=> .inl (by simpa [cD,bI]using hn)) (λb hb=>heap_alloc_old w _ b hb) (by simp) rfl rfl rfl (v:= .pointer (aj (ad w.heap.size 0))) (w':=w.alloc (.cells (ti.ks.map ik).toArray t)) ?_
 ·obtain⟨z1,z2⟩:=Ie (E:=E) (w:=w.alloc (.cells (ti.ks.map ik).toArray t)) (c:=c') hb;exact⟨_,by rw[hP];exact nr.alloc w _ t,z1,z2⟩
 ·have:b=(c'.P nm).blk:=hb;rw[this,hP];exact cu _
 ·cases hx;obtain⟨k,_,rfl⟩:=cG.1 hb;exact td (Bj k)
 ·show _=_;rw[hP]
 ·unfold execOp;rw[ho];exact iE hr
theorem acs(b8:Ok E σ w c)(dA:eZ E σ a w c)(hd:∀d,o.dst=aj d->d<a.tmps.size){t:aG}{x:dn}(ho:o.op= .box t x)(h:(lG E nm o).val σ=aj e):gA P E σ a w c o e.ws:=by
 simp only[lG,ho]at h;obtain⟨v,h1,h⟩:=Rd.bind_some h;obtain⟨hv,hk⟩:=lN dA h1;cases v with
 |v g xs=>
  obtain⟨u,h2,h⟩:=Rd.bind_some h;obtain⟨hf,jD⟩:=j8 h2;obtain rfl:=aF h;have hr:=Sj (P:=P) w t (a.eval x);have kx:∀b∈xs,iS σ b:=λb hb n hn=>hk n (bG.2 ⟨b,hb,hn⟩);have nh:=pO.cells hv;refine A6 b8 dA hd (p:=⟨aq,w.heap.size,0,0,0,0⟩) (g:=λ_ _=>⟨aq,0,0,0,0,0⟩) hf jD (λc' hP _ hK hA=> ?_) (λc' hP _ b hb=> ?_) (λys hx b hb=> ?_) (λc' hP _=> ?_) (λn hn=> .inl (by simpa [cD,bI]using hn)) (λb hb=>heap_alloc_old w _ b hb) (by simp) rfl rfl rfl (v:= .pointer (aj (ad w.heap.size 0))) (w':=w.alloc (.cells (a.eval x).cells t)) ?_
  ·refine⟨_,by rw[hP];exact nr.alloc w _ t,nh.1,λj y hj=> ?_⟩
   obtain⟨u,hu,hy⟩:=nh.2 j y hj;exact⟨u,hu,hy.frame (λb hb=>heap_alloc_old w _ b (b8.lt b hb)) hK (λn hn=>hA n (.inl (kx y (aQ hj) n hn)))⟩
  ·have:b=(c'.P nm).blk:=hb;rw[this,hP];exact cu _
  ·cases hx;exact kx b hb
  ·show _=_;rw[hP]
  ·unfold execOp;rw[ho];exact iE hr
 |jc=>simp at h
 |un=>simp at h
end
end Go.FG

namespace Go.FG
def JM(E:fB)(ks:az Ck)(_i j:aG):Pl:=
 ⟨ak,0,0,0,0,match ks[j]? with|some (.l e)=>(match E.ty e with|some t=>t.ks.length|none=>0)|_=>0⟩
theorem uX{p:Pl}{G:aG->aG->Pl}{xs:aX}(h:∀i j,(G i j).nil=ak):D3 p G xs:=
 ⟨λi j _ hn=>(by rw[h]at hn;cases hn),λi j i' j' _ _ hn=>(by rw[h]at hn;cases hn)⟩
theorem Mw{E:fB}{w:bF}{ks:az Ck}(hf:flat E ks=ak)(hn:JO ks=ak){i j:aG}{k:Ck}(hk:ks[j]? =aj k):XC E w (JM E ks) i j (ik k) (yF k):=by
 have h1:=bn.1 hf k (aQ hk);have h2:=bn.1 hn k (aQ hk);cases k with
 |l e=>
  replace h1:(match E.ty e with|some ti=>plain ti.ks|none=>aq)=true:=h1;cases ht:E.ty e with
  |none=>rw[ht]at h1;cases h1
  |some t=>
   rw[ht]at h1;refine⟨rfl,t,ht,h1, ?_,λy hy=>(by cases hy),⟨rfl,λ_=>⟨rfl,rfl⟩,λh=>by cases h⟩⟩
   show(match ks[j]? with|some (.l e)=>(match E.ty e with|some t=>t.ks.length|none=>0)|_=>0)=_;rw[hk];simp only[ht]
 |o=>cases h2
 |s=>exact⟨rfl,bK _⟩
 |_=>exact⟨rfl,trivial⟩
theorem Ku{E:fB}{w:bF}{K:aG->Prop}{k:Ck}(h2:(match k with| .o=>aq|_=>ak)=ak):cY E w K (ik k) (yF k):=by
 cases k with
 |o=>cases h2
 |i k=>exact .i _ _
 |b=>exact .b _
 |s=>exact .s _ (bK _)
 |l e=>exact .nl _ _ _
theorem Xi{k:Ck}(h2:(match k with| .o=>aq|_=>ak)=ak):(yF k).kd=k:=by cases k<;>first|rfl|cases h2
theorem wD{ks:az Ck}(hn:JO ks=ak)(n:aG):∀y∈aT ks n,y.map CV.kd=ks:=by
 intro y hy;rw[(List.mem_replicate.1 hy).2,jU];have:∀k∈ks,(CV.kd∘yF) k=k:=λk hk=>Xi (bn.1 hn k hk);conv=>rhs;rw[<-List.map_id ks]
 exact vn this
theorem tE{ks:az Ck}{n i j:aG}{y:az CV}{x:CV}(hi:(aT ks n)[i]? =aj y)(hj:y[j]? =aj x):i<n/\∃k,ks[j]? =aj k/\x=yF k:=by
 unfold aT at hi;have jD:=(aU.1 hi).1;rw[List.length_replicate]at jD;rw[List.getElem?_replicate,bC jD]at hi;cases hi;rw[bE]at hj;cases hk:ks[j]? with
 |none=>rw[hk]at hj;cases hj
 |some k=>rw[hk]at hj;cases hj;exact⟨jD,k,rfl,rfl⟩
theorem lk{ks:az Ck}{n i j:aG}{k:Ck}(hi:i<n)(hk:ks[j]? =aj k):(madeCells (ks.map ik).toArray (n*ks.length))[i*ks.length+j]? =aj (ik k):=by
 have hj:=(aU.1 hk).1;have jD:i*ks.length+j<n*ks.length:=by have:(i+1)*ks.length<=n*ks.length:=b7 _ hi;rw[da]at this;omega
 have hm:(i*ks.length+j)%ks.length=j:=by rw[CY,Nat.mul_add_mod];exact Nat.mod_eq_of_lt hj
 unfold madeCells;rw[My,Array.getElem?_range,bC jD,iQ];congr 1;simp only[TH,bP,hm];rw[getElem!_def,gQ,bE,hk];rfl
theorem xY{P:cQ}{E:fB}{σ:St}(hE:dZ P E){t:aG}{k:mI}(h:(pA E t).val σ=aj (.i k)):P.underlying t=aj (.int k):=by obtain⟨ti,h1,h2,h3⟩:=qU h;obtain⟨d,hd,_,hn⟩:=hE.desc t ti h1;rcases hn h2 with ⟨k,h,rfl⟩|⟨h,_⟩|⟨h,_⟩|⟨e',h,_⟩|⟨h,_⟩<;>rw[h3]at h<;>simp_all
theorem K_{P:cQ}{E:fB}(hE:dZ P E){e:aG}{te:TI}(ht:E.ty e=aj te)(h:(u8s te.ks&& !te.agg)=ak):te.ks=[.i .u8]/\P.underlying e=aj (.int .u8):=by
 simp only[aK,dD]at h;have hk:te.ks=[.i .u8]:=by
  have:=h.1;unfold u8s at this;split at this
  ·assumption
  ·cases this
 obtain⟨d,hd,_,hn⟩:=hE.desc e te ht;refine⟨hk, ?_⟩
 rcases hn h.2 with ⟨k,h,rfl⟩|⟨h,_⟩|⟨h,_⟩|⟨e',h,_⟩|⟨h,_⟩<;>rw[hk]at h<;>simp_all
section
variable {P:cQ} {E:fB} {σ:St} {a:Act} {w:bF} {c:eK} {o:eV} {nm:aG} {e:rX}
theorem NM(hE:dZ P E){src dst el:aG}{te:TI}(hs:P.underlying src=aj (.slice el))(hd:P.underlying dst=aj .string)(he:P.underlying el=aj (.int .u8))(hk:te.ks=[.i .u8]){v:bg}{xs:aX}
  (h:nL w v xs te.ks.length (λ_ _ u x=>Sc u x)) (mc:∀y∈xs,y.map CV.kd=te.ks):(convert src dst v).run P w= .ok (.string (bytesOf xs)) w:=by
 obtain⟨A,cp,rfl,h2⟩:=h;by_cases hx:xs=[]
 ·subst hx;rw[jr];have e0:bytesOf []=FT:=rfl;rw[e0];cases A with
  |none=>exact run_convert_bytes_nil w src el hs he 0 cp dst hd
  |some ad'=>rw[run_convert_bytes_string w src dst el _ 0 cp hs he hd];exact run_bytesToString w ad' 0 cp [] rfl
 ·obtain⟨b,oo,rfl,h3⟩:=h2 hx;have:=run_convert_bytes_arg w src el hs he b oo xs.length cp (xs.map λy=>bY (y.getD 0 (.b aq))) (by simp) (λi hi=>by
   have hy:=mc xs[i] (bD hi);rw[hk]at hy;cases hq:xs[i]with
   |nil=>rw[hq]at hy;cases hy
   |cons x r=>
    rw[hq]at hy;simp only[eW,XO,List.map_eq_nil_iff]at hy;obtain⟨hx1,rfl⟩:=hy;obtain⟨u,hu,hr⟩:=h3 i xs[i] 0 x (by simp[hi]) (by rw[hq];rfl);rw[hk]at hu;simp only[c5,jr,bT,Nat.mul_one,wT]at hu;rw[hu,hr.1];cases x with
    |i k n=>cases hx1;simp[NR,jq,hi,hq,bY]
    |_=>cases hx1) dst hd
  rw[this];unfold strOfNums bytesOf;rw[jU];rfl
theorem iw(xs:aX):(bytesOf xs).size=xs.length:=by unfold bytesOf;simp[gh]
theorem lF(s:au):(qp s).length=s.size:=by unfold qp;simp
theorem Fx{s:au}{i j:aG}{y:az CV}{x:CV}(hi:(qp s)[i]? =aj y)(hj:y[j]? =aj x):j=0/\∃b,s.data[i]? =aj b/\x= .i .u8 (b.toNat:aA):=by
 unfold qp at hi;rw[bE,cO]at hi;cases hb:s.data[i]? with
 |none=>rw[hb]at hi;cases hi
 |some b=>
  rw[hb]at hi;cases hi;cases j with
  |zero=>cases hj;exact⟨rfl,b,rfl,rfl⟩
  |succ j=>simp at hj
theorem HR(s:au):∀y∈qp s,y.map CV.kd=[.i .u8]:=by intro y hy;obtain⟨b,_,rfl⟩:=cG.1 hy;rfl
theorem JR(hE:dZ P E)(b8:Ok E σ w c)(dA:eZ E σ a w c)(hd:∀d,o.dst=aj d->d<a.tmps.size){src dst:aG}{x:dn}(ho:o.op= .convert src dst x)(h:(lG E nm o).val σ=aj e)(hc:e.cond=ak):gA P E σ a w c o e.ws:=by
 simp only[lG,ho]at h;obtain⟨ks,h1,h⟩:=Rd.bind_some h;obtain⟨kd,h2,h⟩:=Rd.bind_some h;obtain⟨v,h3,h⟩:=Rd.bind_some h;obtain⟨ev,kv⟩:=iI dA h3;have exec:∀{u r:bg} {w':bF},a.eval x=u->(convert src dst u).run P w= .ok r w'->(execOp a.eval o).run P w= .ok (.value r) w':=by intro u r w' hu hr;unfold execOp;rw[ho];exact iE (by rw[hu];exact hr)
 cases kd with
 |i k=>
  cases ks with
  |i k0=>
   cases v with
   |i k1 n=>refine fL b8 dA hd h (v:= .int k (k.wrap n)) rfl (λn hn=>by simp[cD,bI]at hn) (exec ev ?_);simp[convert,run_underlying (xY hE h1),run_underlying (xY hE h2),Conv.intToInt]
   |_=>simp at h
  |_=>simp at h
 |s=>
  have A7:=kJ hE h2;cases ks with
  |s=>
   cases v with
   |s s=>refine fL b8 dA hd h (v:= .string s) ⟨rfl,ev.2⟩ (λn hn=>by simp[cD,bI]at hn) (exec ev.1 ?_);simp[convert,run_underlying (kJ hE h1),run_underlying A7]
   |_=>simp at h
  |l el=>
   have CE:=ka hE h1;have gen:(∀e,v=e->((lV E e).bind λ(e,xs)=>(rS E e).bind λte=>bif bA e el&&u8s te.ks&& !te.agg then Kj o (decide (xs.length<=4611686018427387904)) (.s (bytesOf xs))else .fail).val σ=aj ‹rX›)->gA P E σ a w c o (‹rX›).ws:=by
    intro h;obtain⟨⟨e1,xs⟩,q1,h⟩:=Rd.bind_some (h v rfl);obtain⟨te,q2,h⟩:=Rd.bind_some h;have q2:=dP q2;obtain⟨q3,h9⟩:=cE h;rw[mZ,aK]at q3;have:=aW q3.1;subst this;obtain⟨q4,q5⟩:=K_ hE q2 q3.2;have hp:plain te.ks=true:=by rw[q4];rfl
    obtain⟨r1,r2,r3⟩:=za b8 ev q1 q2 hp;exact DN b8 dA hd h9 hc (v:= .string (bytesOf xs)) (λhb=>⟨rfl,by unfold Gc;rw[iw];exact b9 hb⟩) (td rfl) (λ_=>exec rfl (NM hE CE A7 q5 q4 r1 r2))
   cases v with
   |nl=>obtain⟨te,q1,h⟩:=Rd.bind_some h;obtain⟨q3,h⟩:=cE h;obtain⟨q4,q5⟩:=K_ hE (dP q1) q3;exact fL b8 dA hd h (v:= .string FT) ⟨rfl,bK _⟩ (λn hn=>by simp[cD,bI]at hn) (exec ev (run_convert_bytes_nil w src el CE q5 0 0 dst A7))
   |_=>exact gen (λ_ hv=>by cases hv;exact h)
  |_=>simp at h
 |_=>simp at h
theorem Fo(hE:dZ P E)(b8:Ok E σ w c)(dA:eZ E σ a w c)(hd:∀d,o.dst=aj d->d<a.tmps.size){t:aG}{x y:dn}(ho:o.op= .makeSlice t x y)(h:(lG E nm o).val σ=aj e)(hc:e.cond=ak):gA P E σ a w c o e.ws:=by
 simp only[lG,ho]at h;obtain⟨⟨k1,n⟩,h1,h⟩:=Rd.bind_some h;obtain⟨⟨k2,m⟩,h2,h⟩:=Rd.bind_some h;obtain⟨ti,h3,h⟩:=Rd.bind_some h;have ex:=pB dA h1;have ey:=pB dA h2;have h3:=dP h3;split at h
 ·rename_i el s_ zw;obtain⟨te,h4,h⟩:=Rd.bind_some h;have h4:=dP h4;obtain⟨h5,h⟩:=cE h;obtain⟨u,h6,h⟩:=Rd.bind_some h;obtain⟨hf,jD⟩:=j8 h6;obtain rfl:=aF h;generalize (bif plain te.ks then nm else nm+999)=nm at hf jD hc⊢;simp only[aK,bf,cJ]at hc h5;obtain⟨⟨c0,rfl⟩,c1,c2⟩:=hc;obtain⟨uV,Lv⟩:=h5;have hu:=oJ hE h3 s_ zw;obtain⟨inf,hi,fT,hby,kH,hz⟩:=hE.info el te h4;obtain⟨z,Io,CG,_⟩:=hz uV;have hr:=run_make (P:=P) w t el inf z hu hi Io k1 k2 n n c0 (Int.le_refl _) (by
   have e1:((n.toNat*te.bytes:aG):aA)<=140737488355328:=(by generalize n.toNat*te.bytes=q at c1⊢;omega)
   rw[hby,Int.mul_comm];rw[Ud,Int.toNat_of_nonneg c0]at e1;omega) (by omega)
  rw[CG,fT]at hr;refine A6 b8 dA hd (p:=⟨aq,w.heap.size,0,n.toNat,n.toNat,te.ks.length⟩) (g:=JM E te.ks) hf jD (λc' hP hG _ _=> ?_) (λc' hP hG b hb=> ?_) (λxs hx b hb=>by cases hx) (λc' hP _=> ?_) (λn hn=> .inl (by simpa [cD,bI]using hn)) (λb hb=>heap_alloc_old w _ b hb) (by simp) rfl rfl rfl (v:= .slice (aj ⟨w.heap.size,0,ao⟩) n.toNat n.toNat) (w':=w.alloc (.cells (madeCells (te.ks.map ik).toArray (n.toNat*te.ks.length)) el)) ?_
  ·refine⟨⟨te,h4,by rw[hP],wD uV _⟩, ?_,λ_=>uX (λi j=>(by rw[hG];try rfl))⟩
   rw[hP,hG];refine⟨by simp[aT],λhn=>(by cases hn),λ_=>⟨_,nr.alloc w _ el,cu _,(by show n.toNat<=2^63-1;omega),by rw[size_madeCells];simp,λi y j x hi hj=> ?_⟩⟩
   obtain⟨gO,k,hk,rfl⟩:=tE hi hj;refine⟨ik k, ?_,by rw[bC rfl];exact Mw Lv uV hk⟩
   rw[bT];exact lk gO hk
  ·rcases hb with ⟨_,rfl⟩|⟨_,i,j,_,hn,_⟩
   ·rw[hP];exact cu _
   ·rw[hG]at hn;cases hn
  ·show _=lj _;rw[hP];rfl
  ·unfold execOp;rw[ho];exact iE (by rw[ex,ey];exact hr)
 ·simp at h
end
end Go.FG

namespace Go.FG
theorem jw{xs:aX}{i j:aG}{cs:az CV}:(eh xs i j cs).length=xs.length:=by unfold eh;simp
theorem wk{xs:aX}{i j:aG}{cs y:az CV}(hy:xs[i]? =aj y)(i':aG):(eh xs i j cs)[i']? =if i'=i then aj (iF y j cs)else xs[i']? :=by
 have jD:=(aU.1 hy).1;have hd:xs.getD i []=y:=by rw[cK,hy];rfl
 unfold eh;rw[N1,hd];by_cases h:i'=i
 ·subst h;simp[jD]
 ·rw[bL h,bL (λe=>h e.symm)]
theorem nr.uniq{w:bF}{b:aG}{v1 v2:de bg}(h1:nr w b v1)(h2:nr w b v2):v1=v2:=by obtain⟨t,fr,h1,_⟩:=h1;obtain⟨t',fr',h2,_⟩:=h2;rw[h1]at h2;cases h2;rfl
theorem iT.pos{w:bF}{p:Pl}{xs:aX}{R:aG->aG->bg->CV->Prop}(h:iT w p xs R){i:aG}(hi:i<p.n):p.nil=aq/\∃vals,nr w p.blk vals:=by
 have jd:p.nil=false:=by
  cases hn:p.nil with
  |false=>rfl
  |true=>have:=(h.nil hn).1;subst this;have:=h.n;simp at this;omega
 obtain⟨vals,hb,_⟩:=h.mem jd;exact⟨jd,vals,hb⟩
theorem iT.aha{w:bF}{p:Pl}{xs:aX}{R R':aG->aG->bg->CV->Prop}(h:iT w p xs R){vals:de bg}(hbv:nr w p.blk vals)(hs:∀y∈xs,y.length=p.sz){i j:aG}{cs:az CV}{vs:az bg}(hi:i<p.n)(hj:j+cs.length<=p.sz)(hl:vs.length=cs.length)
  (xV:∀(q:aG) (x:CV),cs[q]? =aj x->∃u:bg,vs[q]? =aj u/\R' i (j+q) u x)
  (hold:∀(i1:aG) (y:az CV) (j1:aG) (x:CV) (u:bg),xs[i1]? =aj y->y[j1]? =aj x->(i1≠i\/¬(j<=j1/\j1<j+cs.length))->R i1 j1 u x->R' i1 j1 u x):
  p.off+i*p.sz+j+vs.length<=vals.size/\iT (w.setRow p.blk (dV vals (p.off+i*p.sz+j) vs)) p (eh xs i j cs) R':=by
 have jd:p.nil=false:=by
  cases hn:p.nil with
  |false=>rfl
  |true=>have:=(h.nil hn).1;subst this;have:=h.n;simp at this;omega
 obtain⟨iM,hb,QF,Qy,nD,hc⟩:=h.mem jd;obtain rfl:=hbv.uniq hb;have lE:i<xs.length:=by rw[<-h.n];exact hi
 have hy:xs[i]? =aj xs[i]:=by simp[lE]
 have Hq:=hs xs[i] (bD lE);have h1:(i+1)*p.sz<=p.cap*p.sz:=b7 _ (by omega);rw[da]at h1;have ue:p.off+i*p.sz+j+vs.length<=vals.size:=by omega
 refine⟨ue,⟨by rw[jw];exact h.n,λhn=>(by rw[jd]at hn;cases hn),λ_=> ?_⟩⟩
 refine⟨_,hb.setRow (eO ue),QF,Qy,by rw[eO ue];exact nD,λi' y j' x lL M9=> ?_⟩
 rw[wk hy]at lL;rw[fY ue];by_cases Hf:i'=i
 ·subst Hf;rw[bC rfl]at lL;cases lL;rw[oU (by omega)]at M9;by_cases hq:j<=j'/\j'<j+cs.length
  ·rw[bC hq]at M9;rw[bC (by omega)];obtain⟨u,hu,hr⟩:=xV (j'-j) x M9;refine⟨u, ?_, ?_⟩
   ·rw[<-hu];congr 1;omega
   ·rwa[show j+(j'-j)=j' by omega]at hr
  ·rw[bL hq]at M9;obtain⟨u,hu,hr⟩:=hc _ _ _ _ hy M9;exact⟨u,by rw[bL (by omega)];exact hu,hold _ _ _ _ _ hy M9 (.inr hq) hr⟩
 ·rw[bL Hf]at lL;obtain⟨u,hu,hr⟩:=hc _ _ _ _ lL M9;refine⟨u, ?_,hold _ _ _ _ _ lL M9 (.inl Hf) hr⟩
  have Ob:j'<p.sz:=by rw[<-hs y (aQ lL)];exact(aU.1 M9).1
  rw[bL ?_];exact hu;rcases N3 Hf with jD|hgt
  ·have:(i'+1)*p.sz<=i*p.sz:=b7 _ jD;rw[da]at this;omega
  ·have:(i+1)*p.sz<=i'*p.sz:=b7 _ hgt;rw[da]at this;omega
theorem iT.put{w:bF}{p:Pl}{xs:aX}{R R':aG->aG->bg->CV->Prop}(h:iT w p xs R){vals:de bg}(hbv:nr w p.blk vals)(hs:∀y∈xs,y.length=p.sz){i j:aG}{cs:az CV}{vs:az bg}(hi:i<p.n)(hj:j+cs.length<=p.sz)(hl:vs.length=cs.length)
  (xV:∀(q:aG) (x:CV),cs[q]? =aj x->∃u:bg,vs[q]? =aj u/\R' i (j+q) u x)
  (hold:∀(i:aG) (y:az CV) (j:aG) (x:CV) (u:bg),xs[i]? =aj y->y[j]? =aj x->R i j u x->R' i j u x):
  p.off+i*p.sz+j+vs.length<=vals.size/\iT (w.setRow p.blk (dV vals (p.off+i*p.sz+j) vs)) p (eh xs i j cs) R':=
 h.aha hbv hs hi hj hl xV (λi1 y j1 x u h1 h2 _ hr=>hold i1 y j1 x u h1 h2 hr)
theorem kI{xs:aX}{ks:az Ck}(h:∀y∈xs,y.map CV.kd=ks)(i j:aG):fV xs i j↔i<xs.length/\∃e,ks[j]? =aj (.l e):=by
 constructor
 ·rintro ⟨y,x,hy,hx,hl⟩;refine⟨(aU.1 hy).1, ?_⟩
  cases x with
  |l e ys=>exact⟨e,by rw[<-h y (aQ hy),bE,hx];rfl⟩
  |i=>simp[tc]at hl
  |b=>simp[tc]at hl
  |s=>simp[tc]at hl
 ·rintro ⟨hi,e,hk⟩;have hy:xs[i]? =aj xs[i]:=by simp[hi]
  have h1:=h xs[i] (bD hi);rw[<-h1,bE]at hk;cases hx:xs[i][j]? with
  |none=>rw[hx]at hk;cases hk
  |some x=>
   rw[hx]at hk;cases x with
   |l e2 ys=>exact⟨_,_,hy,hx,rfl⟩
   |i=>cases hk
   |b=>cases hk
   |s=>cases hk
theorem Nj{y cs:az CV}{ks:az Ck}{j:aG}(hy:y.map CV.kd=ks)(hc:cs.map CV.kd=(ks.drop j).take cs.length)(hj:j+cs.length<=ks.length):(iF y j cs).map CV.kd=ks:=by
 have hl:y.length=ks.length:=by rw[<-hy];simp
 apply TF;intro q;rw[bE,oU (by omega)];split
 ·rename_i h;have:(cs.map CV.kd)[q-j]? =((ks.drop j).take cs.length)[q-j]? :=by rw[hc]
  rw[bE]at this;rw[this,dR,bC (by omega),dJ];congr 1;omega
 ·rw[<-hy,bE]
theorem wq{xs:aX}{ks:az Ck}{i j:aG}{cs:az CV}(h:∀y∈xs,y.map CV.kd=ks)(hc:cs.map CV.kd=(ks.drop j).take cs.length)(hj:j+cs.length<=ks.length)(hi:i<xs.length):∀y∈eh xs i j cs,y.map CV.kd=ks:=by
 intro y hy;obtain⟨q,hq⟩:=bZ hy;rw[wk (y:=xs[i]) (by simp[hi])]at hq;split at hq
 ·cases hq;exact Nj (h _ (bD hi)) hc hj
 ·exact h y (aQ hq)
section
variable {P:cQ} {E:fB} {σ:St} {a:Act} {w:bF} {c:eK} {o:eV} {nm:aG} {e:rX}
theorem xR{ex:aY}{k:Ck}{x:AV}{cv:CV}{ws:az (aG×eu)}{u:bg}(hp:plain [k]=ak)(h:(GY ex k x).val σ=aj (cv,ws))(hx:ea E w c x u):cv.kd=k/\Sc u cv/\tc cv=aq/\ws=[]:=by
 cases k with
 |i k=>
  cases x with
  |i k' n=>
   replace h:(if k=k' then Rd.ret (CV.i k n,[])else .fail:Rd (CV×az (aG×eu))).val σ=aj (cv,ws):=h;split at h
   ·rename_i hk;subst hk;obtain⟨rfl,rfl⟩:=bU (aF h);exact⟨rfl,⟨hx,trivial⟩,rfl,rfl⟩
   ·simp at h
  |_=>simp[GY]at h
 |b=>
  cases x with
  |b n=>obtain⟨rfl,rfl⟩:=bU (aF h);exact⟨rfl,⟨hx,trivial⟩,rfl,rfl⟩
  |_=>simp[GY]at h
 |s=>
  cases x with
  |s n=>obtain⟨rfl,rfl⟩:=bU (aF h);exact⟨rfl,hx,rfl,rfl⟩
  |_=>simp[GY]at h
 |l=>simp[plain]at hp
 |o=>simp[plain]at hp
theorem AW{ex:aY}:∀{ks:az Ck} {xs:az AV} {cs:az CV} {ws:az (aG×eu)} (hp:plain ks=ak) (h:(xS ex ks xs).val σ=aj (cs,ws)),cs.map CV.kd=ks/\cs.length=xs.length/\ws=[]/\
  ∀(vals:de bg),fM E w c vals xs->∀(q:aG) (x:CV),cs[q]? =aj x->vals[q]? =aj (NR x)/\tc x=aq/\okC x:=by
 intro ks;induction ks with
 |nil=>
  intro xs cs ws hp h;cases xs with
  |nil=>obtain⟨rfl,rfl⟩:=bU (aF h);exact⟨rfl,rfl,rfl,λ_ _ q x hq=>by simp at hq⟩
  |cons=>simp[xS]at h
 |cons k ks ih=>
  intro xs cs ws hp h;cases xs with
  |nil=>simp[xS]at h
  |cons x xs=>
   obtain⟨⟨cv,w1⟩,h1,h⟩:=Rd.bind_some h;obtain⟨⟨cr,w2⟩,h2,h⟩:=Rd.bind_some h;obtain⟨rfl,rfl⟩:=bU (aF h);simp only[plain,r_,aK]at hp;have Ng:plain [k]=true:=by simp[plain,hp.1]
   have hp2:plain ks=true:=hp.2;obtain⟨i1,i2,i3,i4⟩:=ih hp2 h2;have e1:=λu (hu:ea E w c x u)=>xR Ng h1 hu;have YP:cv.kd=k/\w1=[]:=by
    cases k<;>cases x<;>simp[GY,plain]at h1 Ng<;>first
     |(obtain⟨rfl,rfl⟩:=h1;exact⟨rfl,rfl⟩)
     |(split at h1<;>simp at h1;rename_i hk;subst hk;obtain⟨rfl,rfl⟩:=h1;exact⟨rfl,rfl⟩)
   refine⟨by simp[YP.1,i1],by simp[i2],by rw[YP.2,i3];rfl,λvals hv q y hq=> ?_⟩
   cases q with
   |zero=>cases hq;obtain⟨u,hu,ha⟩:=hv.2 0 x rfl;obtain⟨_,⟨rfl,ho⟩,hl,_⟩:=e1 u ha;exact⟨hu,hl,ho⟩
   |succ q=>
    have LC:fM E w c (vals.extract 1 vals.size) xs:=by
     refine⟨by simp;have:=hv.1;simp at this;omega,λj b hj=> ?_⟩
     obtain⟨u,hu,hb⟩:=hv.2 (j+1) b hj;refine⟨u, ?_,hb⟩
     have:=(dN.1 hu).1;rw[dS,bC (by omega),iK];exact hu
    obtain⟨r1,r2⟩:=i4 _ LC q y hq;refine⟨?_,r2⟩
    rw[dS]at r1;split at r1
    ·rw[iK];exact r1
    ·cases r1
theorem W6{s:Sem Unit}{w':bF}(hr:s.run P w= .ok () w'):(do s;pure Next.skip:Sem Next).run P w= .ok .skip w':=by simp only[cg,hr,bB,cL]
theorem DD:∀{ys:az AV} {q0 q n2:aG},yq q0 ys=aj (q,n2)->q0<=q/\ys[q-q0]? =aj (.own n2)/\∀(k m:aG),ys[k]? =aj (.own m)->k=q-q0:=by
 have Wu:∀{ys:az AV},HG ys=ak->∀(k m:aG),ys[k]? ≠aj (.own m):=by
  intro ys;induction ys with
  |nil=>intro h k m h;simp at h
  |cons y ys ih=>
   intro h k m hk;cases y with
   |own n=>cases h
   |_=>
    cases k with
    |zero=>cases hk
    |succ k=>exact ih (by simpa [HG]using h) k m hk
 intro ys;induction ys with
 |nil=>intro q0 q n2 h;cases h
 |cons y ys ih=>
  intro q0 q n2 h;have step:yq (q0+1) ys=aj (q,n2)->(∀m,y≠ .own m)->q0<=q/\(y::ys)[q-q0]? =aj (.own n2)/\∀(k m:aG),(y::ys)[k]? =aj (.own m)->k=q-q0:=by
   intro h hy;obtain⟨h1,h2,h3⟩:=ih h;have e:q-q0=(q-(q0+1))+1:=by omega
   refine⟨by omega,by rw[e,dF];exact h2,λk m hk=> ?_⟩
   cases k with
   |zero=>cases hk;exact cq rfl (hy m)
   |succ k=>have:=h3 k m hk;omega
  cases y with
  |own n=>
   unfold yq at h;cases h1:HG ys with
   |false=>rw[h1]at h;cases h
   |true=>
    rw[h1]at h;cases h;refine⟨cu _,by rw[wU];rfl,λk m hk=> ?_⟩
    cases k with
    |zero=>omega
    |succ k=>exact cq hk (Wu h1 k m)
  |_=>exact step (by simpa [yq]using h) (λm h=>by cases h)
theorem UC{E:fB}{w:bF}{c:eK}{e2 n2:aG}{zs:aX}:∀{ks:az Ck} {ys:az AV} {cs:az CV},Cv e2 n2 zs ks ys=aj cs->cs.map CV.kd=ks/\cs.length=ys.length/\
  ∀(q:aG) (x:CV),cs[q]? =aj x->∃y,ys[q]? =aj y/\((tc x=aq/\∀u,ea E w c y u->Sc u x)\/(x= .l e2 zs/\y= .own n2)):=by
 intro ks;induction ks with
 |nil=>
  intro ys cs h;cases ys with
  |nil=>cases h;exact⟨rfl,rfl,λq x h=>by simp at h⟩
  |cons=>cases h
 |cons k ks ih=>
  intro ys cs h
  have go:∀{y:AV} {r:az AV} {x:CV},ys=y::r->(Cv e2 n2 zs ks r).map (x:: ·)=aj cs->x.kd=k->((tc x=aq/\∀u,ea E w c y u->Sc u x)\/(x= .l e2 zs/\y= .own n2))->
    cs.map CV.kd=k::ks/\cs.length=ys.length/\∀(q:aG) (x:CV),cs[q]? =aj x->∃y,ys[q]? =aj y/\((tc x=aq/\∀u,ea E w c y u->Sc u x)\/(x= .l e2 zs/\y= .own n2)):=by
   intro y r x hy hm hk hx
   subst hy
   cases hr:Cv e2 n2 zs ks r with
   |none=>rw[hr]at hm;cases hm
   |some cr=>
    rw[hr]at hm;cases hm;obtain⟨i1,i2,i3⟩:=ih hr;refine⟨by simp[hk,i1],by simp[i2],λq z hq=> ?_⟩
    cases q with
    |zero=>cases hq;exact⟨y,rfl,hx⟩
    |succ q=>exact i3 q z hq
  cases ys with
  |nil=>cases k<;>cases h
  |cons y r=>
   cases k with
   |i k=>
    cases y with
    |i k' n=>
     unfold Cv at h;split at h
     ·rename_i hk;subst hk;exact go rfl h rfl (.inl ⟨rfl,λu hu=>⟨hu,trivial⟩⟩)
     ·cases h
    |_=>cases h
   |b=>
    cases y with
    |b n=>exact go rfl h rfl (.inl ⟨rfl,λu hu=>⟨hu,trivial⟩⟩)
    |_=>cases h
   |s=>
    cases y with
    |s n=>exact go rfl h rfl (.inl ⟨rfl,λu hu=>hu⟩)
    |_=>cases h
   |l e=>
    cases y with
    |own n=>
     unfold Cv at h;cases hb:(bA e e2&&bA n n2)with
     |false=>rw[hb]at h;cases h
     |true=>rw[hb,ay]at h;simp only[aK]at hb;have:=aW hb.1;subst this;have:=aW hb.2;subst this;exact go rfl h rfl (.inr ⟨rfl,rfl⟩)
    |_=>cases h
   |o=>cases y<;>cases h
theorem M1(b8:Ok E σ w c)(dA:eZ E σ a w c)(hd:∀d,o.dst=aj d->d<a.tmps.size){n i j:aG}{ys:az AV}{ws:az (aG×eu)}{X:de bg}(hF:xX n=ak)(hi:i<(c.P n).n)(h:(FE E n i j ys).val σ=aj ws)(nh:fM E w c X ys)(kH:0<ys.length)
  (exec:∀(cur:de bg),nr w (c.P n).blk cur->(c.P n).off+i*(c.P n).sz+j+X.size<=cur.size->(execOp a.eval o).run P w= .ok .skip (w.setRow (c.P n).blk (dV cur ((c.P n).off+i*(c.P n).sz+j) X.toList))):gA P E σ a w c o (ws++dw o .un):=by
 unfold FE at h;obtain⟨ob,hg0,h⟩:=Rd.bind_some h;have hg:=dp hg0;split at h
 ·rename_i el xs;obtain⟨te,h6,h⟩:=Rd.bind_some h;have h6:=dP h6;split at h
  ·rename_i q n2 vT;cases hb0:bA n n2 with
   |true=>rw[hb0]at h;simp at h
   |false=>
    rw[hb0,aC]at h;have h_:n≠n2:=λe=>by subst e;rw[Nat.beq_refl]at hb0;cases hb0
    obtain⟨ob2,amE,h⟩:=Rd.bind_some h;have X3:=dp amE;split at h
    ·rename_i e2 zs;obtain⟨t2,h7,h⟩:=Rd.bind_some h;have h7:=dP h7;obtain⟨h8,h⟩:=cE h;simp only[aK]at h8;obtain⟨rD,hle⟩:=h8;have hle:=cC hle;split at h
     ·rename_i cs F_;obtain rfl:=aF h;obtain⟨m1,m2,m3⟩:=UC (E:=E) (w:=w) (c:=c) F_;obtain⟨_,_,hu⟩:=DD vT;rw[uF]at hu;obtain⟨⟨t1,q1,fT,mc⟩,fS,gO⟩:=b8.obj n _ hg;obtain rfl:te=t1:=aF (h6.symm.trans q1);obtain⟨⟨t3,q3,JB,CD⟩,n9,_⟩:=b8.obj n2 _ X3;obtain rfl:t2=t3:=aF (h7.symm.trans q3);have jC:j+cs.length<=te.ks.length:=by rw[m2];exact hle
      have hkd:cs.map CV.kd=(te.ks.drop j).take cs.length:=by rw[m1,m2]
      have lE:i<xs.length:=by rw[<-fS.n];exact hi
      obtain⟨jd,vals,hb⟩:=fS.pos hi;have Hg:=kI mc;have rQ:=wq mc hkd jC lE;have A8:=kI rQ;have same:∀i' j',fV (eh xs i j cs) i' j'->fV xs i' j':=λi' j' hx=>(Hg i' j').2 (by have:=(A8 i' j').1 hx;rwa[jw]at this);have Hq:∀y∈xs,y.length=(c.P n).sz:=λy hy=>by rw[fT,<-mc y hy];simp
      let w':=w.setRow (c.P n).blk (dV vals ((c.P n).off+i*(c.P n).sz+j) X.toList);have qT:∀b,b≠(c.P n).blk->w'.heap[b]? =w.heap[b]? :=λb hb=>setRow_other w _ b _ hb;have apd:∀i j,¬fV zs i j:=by rintro i j ⟨y,x,h1,h2,h3⟩;rw[gV rD (CD y (aQ h1)) h2]at h3;cases h3
      have WA:(c.P n2).nil=aq->fa c n2 (.row e2 ak zs) (c.P n2).blk:=λhn=> .inl ⟨hn,rfl⟩;have JX:fa c n (.row el ak xs) (c.P n).blk:= .inl ⟨jd,rfl⟩;have afS:(c.P n2).nil=aq->(c.P n2).blk≠(c.P n).blk:=λhn he=>h_ (b8.sep n _ n2 _ _ hg X3 JX (by rw[<-he];exact WA hn));let c':eK:=⟨c.P,λm i' j'=>if m=n/\i'=i/\j'=j+q then c.P n2 else c.G m i' j',c.K⟩
      have hG1:c'.G n i (j+q)=c.P n2:=bC ⟨rfl,rfl,rfl⟩;have hG2:∀i' j',¬(i'=i/\j'=j+q)->c'.G n i' j'=c.G n i' j':=λi' j' h=>bL (λe=>h ⟨e.2.1,e.2.2⟩);have hG3:∀m,m≠n->c'.G m=c.G m:=λm hm=>by funext i' j';exact bL (λe=>hm e.1)
      have Vd:∀i' j',fV (eh xs i j cs) i' j'->(c'.G n i' j').nil=aq->(i'=i/\j'=j+q/\(c.P n2).nil=aq/\(c'.G n i' j').blk=(c.P n2).blk)\/(¬(i'=i/\j'=j+q)/\(c.G n i' j').nil=aq/\(c'.G n i' j').blk=(c.G n i' j').blk/\fa c n (.row el ak xs) (c.G n i' j').blk):=by
       intro i' j' hh hn;by_cases he:i'=i/\j'=j+q
       ·obtain⟨rfl,rfl⟩:=he;rw[hG1]at hn⊢;exact .inl ⟨rfl,rfl,hn,rfl⟩
       ·rw[hG2 i' j' he]at hn⊢;exact .inr ⟨he,hn,rfl, .inr ⟨rfl,i',j',same i' j' hh,hn,rfl⟩⟩
      obtain⟨nD,zt⟩:=iT.aha (R':=λi1 j1 u1 x1=>if ak=ak then XC E w' (c'.G n) i1 j1 u1 x1 else cY E w' c'.K u1 x1) fS hb Hq (i:=i) (j:=j) (cs:=cs) (vs:=X.toList) hi (by rw[fT];exact jC) (by rw[dK,nh.1,m2])
       (λk x hk=>by
        obtain⟨y,hy,hxy⟩:=m3 k x hk;obtain⟨u,hu1,hu2⟩:=nh.2 k y hy;refine⟨u,by rw[cO];exact hu1, ?_⟩
        rw[bC rfl];rcases hxy with ⟨hl,hsc⟩|⟨rfl,rfl⟩
        ·exact tz hl (hsc u hu2)
        ·have uU:k=q:=hu k n2 hy;subst uU;have hu2:u=lj (c.P n2):=hu2;refine⟨by rw[hG1];exact hu2,t2,h7,rD,by rw[hG1];exact JB,CD, ?_⟩
         rw[hG1];exact n9.frame (λhn=>qT _ (afS hn)) (λi1 j1 y1 x1 u1 g1 g2 hr=>by rw[bC rfl]at hr;exact tC hr (gV rD (CD y1 (aQ g1)) g2)))
       (λi1 y1 j1 x1 u1 h1 h2 am5 hr=>by
        rw[bC rfl]at hr⊢;have CC:XC E w' (c.G n) i1 j1 u1 x1:=hr.frame (λhl hn=>qT _ ((gO rfl).out i1 j1 ⟨y1,x1,h1,h2,hl⟩ hn jd));have amT:¬(i1=i/\j1=j+q):=by
         rintro ⟨rfl,rfl⟩;have hq:q<cs.length:=by obtain⟨_,hq,_⟩:=DD vT;rw[uF]at hq;rw[m2];exact(aU.1 hq).1
         rcases am5 with h|h
         ·exact h rfl
         ·exact h ⟨by omega,by omega⟩
        cases x1 with
        |l ee zz=>obtain⟨r1,r2⟩:=CC;unfold XC;rw[hG2 i1 j1 amT];exact⟨r1,r2⟩
        |i=>exact CC
        |b=>exact CC
        |s=>exact CC)
      have hr:=exec vals hb (by rw[dK]at nD;exact nD);let σ1:=pf (pf σ (cW n) (.o (.row el ak (eh xs i j cs)))) (cW n2) (.o .dead);obtain⟨s1,s2,s3⟩:=rk σ1 o .un;have key:∀m,wr σ1 (dw o .un) (cW m)=if m=n2 then .o .dead else if m=n then .o (.row el ak (eh xs i j cs))else σ (cW m):=λm=>by rw[s3];show(pf (pf σ (cW n) (.o (.row el ak (eh xs i j cs)))) (cW n2) (.o .dead)) (cW m)=_;rw[pE,pE]
      have afg:∀m,σ (cW m)≠ .jE->wr σ1 (dw o .un) (cW m)≠ .jE:=λm hm=>by rw[key];split;simp;split;simp;exact hm
      have hA:qA σ c c':=λm _=>⟨rfl,λhf=>hG3 m (λe=>by subst e;rw[hF]at hf;cases hf)⟩
      have hCh:∀m,m=n\/m=n2->∃ob,σ (cW m)= .o ob:=by rintro m (rfl|rfl);exact⟨_,hg⟩;exact⟨_,X3⟩
      have iq:∀m x,(m=n\/m=n2)->wr σ1 (dw o .un) (cW m)= .o x->(m=n2/\x= .dead)\/(m=n/\x= .row el ak (eh xs i j cs)):=by
       intro m x hm hx;rw[key]at hx;by_cases UB:m=n2
       ·rw[bC UB]at hx;cases hx;exact .inl ⟨UB,rfl⟩
       ·rw[bL UB,bC (hm.resolve_right UB)]at hx;cases hx;exact .inr ⟨hm.resolve_right UB,rfl⟩
      have hh:=b8.vI (σ':=wr σ1 (dw o .un)) (w':=w') (c':=c') (λm=>m=n\/m=n2) (λm hm=>by rw[key,bL (λe=>hm (.inr e)),bL (λe=>hm (.inl e))]) afg hA (λm hm _=>hG3 m (λe=>hm (.inl e)))
       (λb _ UX=>qT b (λe=>UX ⟨n,_, .inl rfl,hg,by rw[e];exact JX⟩)) (by simp[w',kV]) (λ_ h=>h) (λ_ h=> .inl h) (λb hb=>jb (b8.lt b hb) (by simp[w',kV]))
       (λm x hm hx=>by
        rcases iq m x hm hx with ⟨rfl,rfl⟩|⟨rfl,rfl⟩
        ·trivial
        ·refine⟨⟨te,q1,fT,rQ⟩,zt,λ_=>⟨λi1 j1 hh hn _ he=> ?_,λi1 j1 i2 j2 h1 h2 n1 n2' he=> ?_⟩⟩
         ·rcases Vd i1 j1 hh hn with ⟨_,_,g1,g2⟩|⟨_,g1,g2,g3⟩
          ·exact afS g1 (g2.symm.trans he)
          ·exact(gO rfl).out i1 j1 (same i1 j1 hh) g1 jd (g2.symm.trans he)
         ·rcases Vd i1 j1 h1 n1 with ⟨a1,a2,a3,a4⟩|⟨a1,a2,a3,a4⟩<;>rcases Vd i2 j2 h2 n2' with ⟨b1,b2,b3,b4⟩|⟨b1,b2,b3,b4⟩
          ·exact⟨a1.trans b1.symm,a2.trans b2.symm⟩
          ·exfalso;exact h_ (b8.sep m _ n2 _ _ hg X3 b4 (by rw[<-b3,<-he,a4];exact WA a3))
          ·exfalso;exact h_ (b8.sep m _ n2 _ _ hg X3 a4 (by rw[<-a3,he,b4];exact WA b3))
          ·exact(gO rfl).one i1 j1 i2 j2 (same i1 j1 h1) (same i2 j2 h2) a2 b2 (a3.symm.trans (he.trans b3)))
       (λm x b hm hx hf=>by
        rcases iq m x hm hx with ⟨rfl,rfl⟩|⟨rfl,rfl⟩
        ·exact hf.elim
        ·have ae6:jH (λk=>k=m\/k=n2) σ c b:=by
          rcases hf with ⟨_,rfl⟩|⟨_,i1,j1,hh,hn,rfl⟩
          ·exact⟨m,_, .inl rfl,hg,JX⟩
          ·rcases Vd i1 j1 hh hn with ⟨_,_,g1,g2⟩|⟨_,g1,g2,g3⟩
           ·rw[g2];exact⟨n2,_, .inr rfl,X3,WA g1⟩
           ·rw[g2];exact⟨m,_, .inl rfl,hg,g3⟩
         exact⟨.inl ae6,b8.HH ae6.own⟩)
       (λm x m' x' b hm vS hx oZ hf wH=>by
        rcases iq m x hm hx with ⟨rfl,rfl⟩|⟨rfl,rfl⟩
        ·exact hf.elim
        ·rcases iq m' x' vS oZ with ⟨rfl,rfl⟩|⟨rfl,rfl⟩
         ·exact wH.elim
         ·rfl)
       (λm bs hm hx=>by rcases iq m _ hm hx with ⟨_,h⟩|⟨_,h⟩<;>cases h) rfl rfl rfl
      intro K Q hK;refine BU hr (hK undef w' c' hh.1 ?_ hh.2 hA);refine dA.vI b8 hh.2 hA afg o undef (λk hk=>by rw[s1 k hk];show slot (pf (pf σ (cW n) (.o (.row el ak (eh xs i j cs)))) (cW n2) (.o .dead)) k=_;rw[iY,iY]) (λd ho=>⟨hd d ho, ?_, ?_⟩)
      ·rw[s2 d ho];trivial
      ·rw[s2 d ho];intro k hk;simp[cD]at hk
     ·simp at h
    ·simp at h
  ·simp at h
 ·simp at h
theorem RM(hE:dZ P E)(b8:Ok E σ w c)(dA:eZ E σ a w c)(hd:∀d,o.dst=aj d->d<a.tmps.size){t:aG}{p x:dn}(ho:o.op= .store t p x)(h:(lG E nm o).val σ=aj e):gA P E σ a w c o e.ws:=by
 simp only[lG,ho]at h;obtain⟨ti,h1,h⟩:=Rd.bind_some h;obtain⟨pv,h2,h⟩:=Rd.bind_some h;obtain⟨xv,h3,h⟩:=Rd.bind_some h;have h1:=dP h1;obtain⟨ep,kp⟩:=iI dA h2;obtain⟨ex,kx⟩:=lN dA h3;cases xv with
 |v g ys=>
  obtain⟨h4,h⟩:=cE h;have h4:=aW h4;obtain⟨ws,h5,h⟩:=Rd.bind_some h;obtain rfl:=aF h;have nh:=pO.cells ex;have F_:(a.eval x).cells.size=ti.ks.length:=by rw[nh.1,h4]
  have ky:∀b∈ys,iS σ b:=λb hb n hn=>kx n (bG.2 ⟨b,hb,hn⟩);obtain⟨_,_,_,_,kH,_⟩:=hE.info t ti h1;have exec:∀{b of:aG} {cur:de bg},a.eval p= .pointer (aj (ad b of))->nr w b cur->of+(a.eval x).cells.size<=cur.size->(execOp a.eval o).run P w= .ok .skip (w.setRow b (dV cur of (a.eval x).cells.toList)):=by intro b of cur hp hb hf;unfold execOp;rw[ho];refine W6 ?_;rw[hp];exact HY w hE h1 F_ hb hf nh.one
  have hkK:∀(b:aG) (new:de bg),vp σ c b->∀b',c.K b'->(w.setRow b new).heap[b']? =w.heap[b']? :=by intro b new hb b' hk;exact setRow_other w b b' new (λe=>by subst e;exact b8.HH hb hk)
  have h5:(FF E pv ys).val σ=aj ws\/∃n i j,pv= .rp n i j/\xX n=ak/\(FE E n i j ys).val σ=aj ws:=by
   cases pv with
   |rp n i j=>
    unfold S9 at h5;simp only at h5;cases hF:xX n with
    |true=>rw[hF,ay]at h5;exact .inr ⟨n,i,j,rfl,hF,h5⟩
    |false=>rw[hF,aC]at h5;exact .inl h5
   |_=>exact .inl h5
  rcases h5 with h5|⟨n,i,j,rfl,hF,h5⟩
  rotate_left
  ·obtain⟨hpi,hpv⟩:=ep;exact M1 b8 dA hd hF hpi h5 nh (by rw[<-h4]at kH;exact kH) (λcur hb hf=>exec hpv hb hf)
  cases pv with
  |bp n j=>
   obtain⟨ob,hg,h5⟩:=Rd.bind_some h5;have hg:=dp hg;cases ob with
   |box xs=>
    obtain⟨h6,h5⟩:=cE h5;have h6:=cC h6;obtain rfl:=aF h5;obtain⟨cur,hb,fT,X1⟩:=b8.obj n _ hg;have uW:vp σ c (c.P n).blk:=⟨n,_,hg,rfl⟩
    have nD:j+(a.eval x).cells.size<=cur.size:=by rw[nh.1,fT];exact h6
    have ae1:j+(a.eval x).cells.toList.length<=cur.size:=by rw[dK];exact nD
    have CA:=hkK (c.P n).blk (dV cur j (a.eval x).cells.toList) uW;refine sA b8 dA hd hg (ob':= .box (iF xs j ys)) ?_ (λb hb=>hb) (λzs hz b hb=> ?_) (s:= .un) trivial (λn hn=>by simp[cD]at hn) (λb hb Oc=>setRow_other w _ b _ (λe=>Oc e)) (by simp[kV]) rfl rfl rfl (.inr ⟨exec ep hb nD,rfl⟩)
    ·have:=(fM.put (E:=E) (w:=w) (c:=c) ⟨fT,X1⟩ nh h6)
     refine⟨_,hb.setRow (eO ae1),this.1,λq b hq=> ?_⟩
     obtain⟨u,hu,hub⟩:=this.2 q b hq;exact⟨u,hu,hub.frame CA (λ_ h=>h) (λ_ _=>⟨rfl,rfl⟩)⟩
    ·cases hz;rcases Bg hb with hb|hb
     ·exact b8.kn n xs hg b hb
     ·exact ky b hb
   |_=>simp at h5
  |rp n i j=>
   obtain⟨ob,hg,h5⟩:=Rd.bind_some h5;have hg:=dp hg;cases ob with
   |row el zr xs=>
    obtain⟨te,h6,h5⟩:=Rd.bind_some h5;have h6:=dP h6;obtain⟨h7,h5⟩:=cE h5;obtain⟨⟨cs,w2⟩,h8,h5⟩:=Rd.bind_some h5;obtain rfl:=aF h5;obtain⟨m1,m2,_,m3⟩:=AW (E:=E) (w:=w) (c:=c) h7 h8;obtain⟨⟨t2,q1,fT,mc⟩,fS,gO⟩:=b8.obj n _ hg;obtain rfl:te=t2:=aF (h6.symm.trans q1);obtain⟨hi,hpv⟩:=ep;have hlk:cs.length=((te.ks.drop j).take ys.length).length:=by rw[<-m1];simp
    have jC:j+cs.length<=te.ks.length:=by
     rw[eg,hZ]at hlk;have:0<cs.length:=by rw[m2,h4];exact kH
     omega
    have hkd:cs.map CV.kd=(te.ks.drop j).take cs.length:=by rw[m1,m2]
    have lE:i<xs.length:=by rw[<-fS.n];exact hi
    have jd:(c.P n).nil=false:=by
     cases hn:(c.P n).nil with
     |false=>rfl
     |true=>have:=(fS.nil hn).1;subst this;simp at lE
    have uW:vp σ c (c.P n).blk:=⟨n,_,hg, .inl ⟨jd,rfl⟩⟩
    have CA:=λnew=>hkK (c.P n).blk new uW;have Hg:=kI mc;have rQ:=wq mc hkd jC lE;have A8:=kI rQ;have same:∀i' j',fV (eh xs i j cs) i' j'->fV xs i' j':=λi' j' hx=>(Hg i' j').2 (by have:=(A8 i' j').1 hx;rwa[jw]at this);obtain⟨_,vals,hb⟩:=fS.pos hi;have Hq:∀y∈xs,y.length=(c.P n).sz:=λy hy=>by rw[fT,<-mc y hy];simp
    have amC:=CA (dV vals ((c.P n).off+i*(c.P n).sz+j) (a.eval x).cells.toList);have hw:∀b,c.K b->(w.setRow (c.P n).blk (dV vals ((c.P n).off+i*(c.P n).sz+j) (a.eval x).cells.toList)).heap[b]? =w.heap[b]? :=amC;generalize Lw:w.setRow (c.P n).blk (dV vals ((c.P n).off+i*(c.P n).sz+j) (a.eval x).cells.toList)=w' at hw;have qT:∀b,b≠(c.P n).blk->w'.heap[b]? =w.heap[b]? :=λb hb=>by rw[<-Lw];exact setRow_other w _ b _ hb
    obtain⟨nD,zt⟩:=iT.put (R':=λi1 j1 u1 x1=>if zr=ak then XC E w' (c.G n) i1 j1 u1 x1 else cY E w' c.K u1 x1) fS hb Hq (i:=i) (j:=j) (cs:=cs) (vs:=(a.eval x).cells.toList) hi (by rw[fT];exact jC) (by rw[dK,nh.1,m2])
     (λq y hq=>by
      obtain⟨r1,r2,r3⟩:=m3 _ nh q y hq;refine⟨NR y,by rw[cO];exact r1, ?_⟩
      split
      ·exact tz r2 ⟨rfl,r3⟩
      ·exact kj r2 ⟨rfl,r3⟩)
     (λi1 y1 j1 x1 u1 h1 h2 hr=>by
      cases zr with
      |true=>rw[bC rfl]at hr⊢;exact hr.frame (λhl hn=>qT _ ((gO rfl).out i1 j1 ⟨y1,x1,h1,h2,hl⟩ hn jd))
      |false=>rw[bL (by simp)]at hr⊢;exact hr.frame hw (λ_ h=>h))
    rw[Lw]at zt;refine sA b8 dA hd hg (ob':= .row el zr (eh xs i j cs)) ?_ ?_ (λzs hz=>by cases hz) (s:= .un) trivial (λn hn=>by simp[cD]at hn) (w':=w') (λb hb Oc=>qT b (λe=>Oc (.inl ⟨jd,e⟩))) (by rw[<-Lw];simp[kV]) (by rw[<-Lw];rfl) (by rw[<-Lw];rfl) (by rw[<-Lw];rfl) (.inr ⟨?_,rfl⟩)
    ·exact⟨⟨te,q1,fT,rQ⟩,zt,λhx=>⟨λi1 j1 hh=>(gO hx).out i1 j1 (same i1 j1 hh),λi1 j1 i2 j2 h1 h2=>(gO hx).one i1 j1 i2 j2 (same i1 j1 h1) (same i2 j2 h2)⟩⟩
    ·rintro b (hb|⟨hx,i1,j1,hh,hn⟩)
     ·exact .inl hb
     ·exact .inr ⟨hx,i1,j1,same i1 j1 hh,hn⟩
    ·rw[<-Lw];refine exec hpv hb ?_;rw[dK]at nD;exact nD
   |_=>simp at h5
  |ip n i j i2 j2=>
   obtain⟨ob,hg,h5⟩:=Rd.bind_some h5;have hg:=dp hg;cases ob with
   |row el zr xs=>
    cases zr with
    |false=>simp at h5
    |true=>
    obtain⟨te,h6,h5⟩:=Rd.bind_some h5;have h6:=dP h6;split at h5
    ·rename_i e2 zv;obtain⟨t2,h7,h5⟩:=Rd.bind_some h5;have h7:=dP h7;obtain⟨h8,h5⟩:=cE h5;obtain⟨⟨cs,w2⟩,h9,h5⟩:=Rd.bind_some h5;obtain rfl:=aF h5;have afm:plain ((t2.ks.drop j2).take ys.length)=true:=bn.2 (λk hk=>bn.1 h8 k (kC (kD hk)));obtain⟨m1,m2,_,m3⟩:=AW (E:=E) (w:=w) (c:=c) afm h9;obtain⟨⟨hi,E4,hpv⟩,_⟩:=ep;obtain⟨⟨t1,q1,fT,mc⟩,fS,gO⟩:=b8.obj n _ hg;obtain rfl:te=t1:=aF (h6.symm.trans q1);obtain⟨zs,y,t3,r1,r2,r3,r4,r5,r6,r7,_⟩:=zV b8 hg h6 zv hi;obtain rfl:t2=t3:=aF (h7.symm.trans r3);rw[e7 r1 r2];simp only[ju];have hlk:cs.length=((t2.ks.drop j2).take ys.length).length:=by rw[<-m1];simp
     have jC:j2+cs.length<=t2.ks.length:=by
      rw[eg,hZ]at hlk;have:0<cs.length:=by rw[m2,h4];exact kH
      omega
     have hkd:cs.map CV.kd=(t2.ks.drop j2).take cs.length:=by rw[m1,m2]
     have amH:i2<zs.length:=by rw[<-r7.n];exact E4
     have lE:i<xs.length:=(aU.1 r1).1;obtain⟨Ba,vals,hb⟩:=r7.pos E4;obtain⟨jd,pv,hpb⟩:=fS.pos hi;have CB:fV xs i j:=⟨y,_,r1,r2,rfl⟩
     have uW:vp σ c (c.G n i j).blk:=⟨n,_,hg, .inr ⟨rfl,i,j,CB,Ba,rfl⟩⟩
     have hw:=hkK (c.G n i j).blk (dV vals ((c.G n i j).off+i2*(c.G n i j).sz+j2) (a.eval x).cells.toList) uW;have JD:∀y∈zs,y.length=(c.G n i j).sz:=λy hy=>by rw[r5,<-r6 y hy];simp
     obtain⟨nD,zt⟩:=iT.put (R':=λ_ _ u1 x1=>Sc u1 x1) r7 hb JD (i:=i2) (j:=j2) (cs:=cs) (vs:=(a.eval x).cells.toList) E4 (by rw[r5];exact jC) (by rw[dK,nh.1,m2])
      (λq y hq=>⟨NR y,by rw[cO];exact(m3 _ nh q y hq).1,rfl,(m3 _ nh q y hq).2.2⟩) (λ_ _ _ _ _ _ _ hr=>hr)
     generalize Lw:w.setRow (c.G n i j).blk (dV vals ((c.G n i j).off+i2*(c.G n i j).sz+j2) (a.eval x).cells.toList)=w' at hw zt;have qT:∀b,b≠(c.G n i j).blk->w'.heap[b]? =w.heap[b]? :=λb hb=>by rw[<-Lw];exact setRow_other w _ b _ hb
     have hjk:j<te.ks.length:=(aU.1 zv).1;have abv:[CV.l e2 (eh zs i2 j2 cs)].map CV.kd=(te.ks.drop j).take [CV.l e2 (eh zs i2 j2 cs)].length:=by rw[bw,List.take_one,List.head?_drop,zv];rfl
     have rQ:=wq (i:=i) (j:=j) (cs:=[CV.l e2 (eh zs i2 j2 cs)]) mc abv (by simp;omega) lE;have Hg:=kI mc;have A8:=kI rQ;have same:∀i' j',fV (eh xs i j [CV.l e2 (eh zs i2 j2 cs)]) i' j'->fV xs i' j':=λi' j' hx=>(Hg i' j').2 (by have:=(A8 i' j').1 hx;rwa[jw]at this);have abD:(c.P n).blk≠(c.G n i j).blk:=λe=>(gO rfl).out i j CB Ba jd e.symm;have n9:iT w' (c.P n) (eh xs i j [CV.l e2 (eh zs i2 j2 cs)]) (λi1 j1 u1 x1=>if ak=ak then XC E w' (c.G n) i1 j1 u1 x1 else cY E w' c.K u1 x1):=by
      obtain⟨vs,k1,k2,k3,k4,k5⟩:=fS.mem jd;refine⟨by rw[jw];exact fS.n,λhn=>(by rw[jd]at hn;cases hn),λ_=>⟨vs,k1.frame (qT _ abD),k2,k3,k4,λi1 y1 j1 x1 g1 g2=> ?_⟩⟩
      rw[wk r1]at g1;simp only[if_true]at k5⊢;by_cases Hf:i1=i
      ·subst Hf;rw[bC rfl]at g1;cases g1;have Hq:y.length=te.ks.length:=by rw[<-mc y (aQ r1)];simp
       rw[oU (by simp;omega)]at g2;by_cases hq:j<=j1/\j1<j+[CV.l e2 (eh zs i2 j2 cs)].length
       ·rw[bC hq]at g2;have:j1=j:=by simp at hq;omega
        subst this;simp at g2;subst g2;obtain⟨u,hu,hr⟩:=k5 _ _ _ _ r1 r2;refine⟨u,hu,hr.1,t2,r3,r4,r5,wq r6 hkd jC amH,zt⟩
       ·rw[bL hq]at g2;obtain⟨u,hu,hr⟩:=k5 _ _ _ _ r1 g2;refine⟨u,hu,hr.frame (λhl hn=>qT _ (λe=> ?_))⟩
        have:=((gO rfl).one _ _ _ _ ⟨y,x1,r1,g2,hl⟩ CB hn Ba e).2;simp at hq;omega
      ·rw[bL Hf]at g1;obtain⟨u,hu,hr⟩:=k5 _ _ _ _ g1 g2;exact⟨u,hu,hr.frame (λhl hn=>qT _ (λe=>Hf ((gO rfl).one _ _ _ _ ⟨y1,x1,g1,g2,hl⟩ CB hn Ba e).1))⟩
     refine sA b8 dA hd hg (ob':= .row el ak (eh xs i j [CV.l e2 (eh zs i2 j2 cs)])) ?_ ?_ (λzs hz=>by cases hz) (s:= .un) trivial (λn hn=>by simp[cD]at hn) (w':=w') (λb hb Oc=>qT b (λe=>Oc (.inr ⟨rfl,i,j,CB,Ba,e⟩))) (by rw[<-Lw];simp[kV]) (by rw[<-Lw];rfl) (by rw[<-Lw];rfl) (by rw[<-Lw];rfl) (.inr ⟨?_,rfl⟩)
     ·exact⟨⟨te,q1,fT,rQ⟩,n9,λhx=>⟨λi1 j1 hh=>(gO hx).out i1 j1 (same i1 j1 hh),λi1 j1 i2 j2 h1 h2=>(gO hx).one i1 j1 i2 j2 (same i1 j1 h1) (same i2 j2 h2)⟩⟩
     ·rintro b (hb|⟨hx,i1,j1,hh,hn⟩)
      ·exact .inl hb
      ·exact .inr ⟨hx,i1,j1,same i1 j1 hh,hn⟩
     ·rw[<-Lw];refine exec hpv hb ?_;rw[dK]at nD;exact nD
    ·simp at h5
   |_=>simp at h5
  |_=>simp[FF]at h5
 |jc=>simp at h
 |un=>simp at h
end
end Go.FG

namespace Go.FG
theorem ND{ks:az Ck}(h:plain ks=ak):JO ks=true:=by refine bn.2 (λk hk=> ?_);have:=bn.1 h k hk;cases k<;>first|rfl|exact this
theorem sK{xs:aX}{ks:az Ck}(h:∀y∈xs,y.map CV.kd=ks)(hp:plain ks=ak){i j:aG}:¬fV xs i j:=by intro hx;obtain⟨_,e,hk⟩:=(kI h i j).1 hx;have:=bn.1 hp _ (aQ hk);cases this
theorem GS{xs z:aX}{lo hi:aG}(h1:lo<=hi)(h2:hi<=xs.length)(hz:z.length=hi-lo)(i:aG):(xs.take lo++z++xs.drop hi)[i]? =if lo<=i/\i<hi then z[i-lo]? else xs[i]? :=by
 by_cases a:i<lo
 ·rw[bL (by omega),cj,dg (by simp;omega),dR,bC a]
 ·by_cases b:i<hi
  ·rw[bC ⟨by omega,b⟩,cj,cZ (by simp;omega),dg (by simp;omega)];congr 1;simp;omega
  ·rw[bL (by omega),cj,cZ (by simp;omega),cZ (by simp;omega),dJ];congr 1;simp;omega
section
variable {P:cQ} {E:fB} {σ:St} {a:Act} {w:bF} {c:eK} {o:eV} {nm:aG} {e:rX}
theorem NN{t ty el:aG}{z:bg}{inf:IB}(hu:P.underlying t=aj (.slice el))(hi:P.info? el=aj inf)(hz:inf.zero=aj z){b of n cp:aG}{cur:de bg}(hn:0<n)(hb:nr w b cur)(hf:of+n*z.cells.size<=cur.size)(h1:∀u∈z.cells.toList,u.oneCell'=ak):
  (od #[t] ty #[.slice (aj (ad b of)) n cp]).run P w= .ok (.tuple #[]) (w.setRow b (dV cur of (madeCells z.cells (n*z.cells.size)).toList)):=by
 have JA:=mY (P:=P) w (o:=of) (vs:=(madeCells z.cells (n*z.cells.size)).toList) hb (by simpa [size_madeCells]using hf) (λv hv=>by
  unfold madeCells at hv;simp only[zd,cG]at hv;obtain⟨q,hq,rfl⟩:=hv;have hq:q<n*z.cells.size:=by simpa using hq
  have hp:0<z.cells.size:=by rcases B0 z.cells.size with h|h;(rw[h]at hq;simp at hq);exact h
  have:q%z.cells.size<z.cells.size:=B3 _ hp;rw[getElem!_pos z.cells _ this];exact h1 _ (by simp))
 have hz':(fc z.cells n)=madeCells z.cells (n*z.cells.size):=rfl;cases n with
 |zero=>omega
 |succ n=>simp[od,run_underlying hu,zeroValue,typeInfo,hi,hz,hz',JA]
theorem BI{t ty el:aG}(hu:P.underlying t=aj (.slice el)){A:aD Addr}{cp:aG}:(od #[t] ty #[.slice A 0 cp]).run P w= .ok (.tuple #[]) w:=by cases A<;>simp[od,run_underlying hu]
theorem RH(hE:dZ P E)(b8:Ok E σ w c)(dA:eZ E σ a w c)(hd:∀d,o.dst=aj d->d<a.tmps.size){cl:Call}(ho:o.op= .call cl)(hb:cl.callee= .builtin .clear)(h:(lG E nm o).val σ=aj e):gA P E σ a w c o e.ws:=by
 simp only[lG,ho,hb]at h;split at h
 ·rename_i x hx;split at h
  ·rename_i t ht;obtain⟨k,hk,h⟩:=Rd.bind_some h;cases k with
   |l el=>
    obtain⟨v,h1,h⟩:=Rd.bind_some h;obtain⟨ws,h2,h⟩:=Rd.bind_some h;obtain rfl:=aF h;obtain⟨ev,kv⟩:=iI dA h1;have hu:=ka hE hk;have hx:=mT hx;have ht:=mT ht;have exec:∀{w'},(od #[t] o.type #[a.eval x]).run P w= .ok (.tuple #[]) w'->(execOp a.eval o).run P w= .ok (.value (.tuple #[])) w':=by intro w' hr;obtain⟨cs,F_⟩:=mm (P:=P) (a:=a) (w:=w) ho hb;rw[F_,hx,ht];simp only[builtin,Cf,eW,Av];exact iE hr
    have sv:iU E w c (.jc []) (.tuple #[]):=⟨#[],rfl,rfl,λj agg xs hj=>by simp at hj⟩
    have ao:∀A cp,a.eval x= .slice A 0 cp->(execOp a.eval o).run P w= .ok (.value (.tuple #[])) w:=λA cp hv=>exec (by rw[hv];exact BI hu);have main:∀(n:aG) (ex:aY) (xs:aX) (lo hi:aG) (te:TI),σ (cW n)= .o (.row el ex xs)->E.ty el=aj te->plain te.ks=ak->vF (c.P n) lo hi (a.eval x)->gA P E σ a w c o ([(cW n, .o (.row el ex (xs.take lo++aT te.ks (hi-lo)++xs.drop hi)))]++dw o (.jc [])):=by
     intro n ex xs lo hi te hg JC rD hv;obtain⟨⟨t2,q1,fT,mc⟩,fS,gO⟩:=b8.obj n _ hg;obtain rfl:te=t2:=aF (JC.symm.trans q1);obtain⟨v1,v2,v3,v4⟩:=hv;have hle:hi<=xs.length:=by rw[<-fS.n];exact v2
     have uV:=ND rD;have JD:(aT te.ks (hi-lo)).length=hi-lo:=by simp[aT]
     by_cases hz:hi-lo=0
     ·have afp:xs.take lo++aT te.ks (hi-lo)++xs.drop hi=xs:=by
       have:hi=lo:=by omega
       subst this;simp[aT]
      rw[afp];have hr:(execOp a.eval o).run P w= .ok (.value (.tuple #[])) w:=by
       cases hq:(c.P n).nil with
       |true=>exact ao _ _ (v3 hq)
       |false=>
        rcases v4 hq with ⟨_,h⟩|⟨_,oo,_,h⟩
        ·rw[hz]at h;exact ao _ _ h
        ·exact ao _ _ h
      exact sA b8 dA hd hg (b8.obj n _ hg) (λb hb=>hb) (λzs hz=>by cases hz) sv (λn hn=>by simp[cD]at hn) (λb _ _=>rfl) (cu _) rfl rfl rfl (.inl hr)
     ·have jd:(c.P n).nil=false:=by
       cases hq:(c.P n).nil with
       |false=>rfl
       |true=>have:=(fS.nil hq).1;subst this;simp at hle;omega
      obtain⟨vals,k1,k2,k3,k4,k5⟩:=fS.mem jd;rcases v4 jd with ⟨u1,hv⟩|⟨u1,oo,_,hv⟩
      ·obtain⟨inf,lL,at7,_,_,Io⟩:=hE.info el te JC;obtain⟨z,CG,hz3,_⟩:=Io uV;have Og:z.cells.size=te.ks.length:=by rw[hz3];simp
       have hbd:(c.P n).off+lo*(c.P n).sz+(hi-lo)*z.cells.size<=vals.size:=by rw[Og,<-fT,lC,<-da];have:(lo+(hi-lo))*(c.P n).sz<=(c.P n).cap*(c.P n).sz:=b7 _ (by omega);omega
       have hr:=NN (P:=P) (w:=w) (ty:=o.type) (of:=(c.P n).off+lo*(c.P n).sz) (n:=hi-lo) (cp:=(c.P n).cap-lo) hu lL CG (by omega) k1 hbd (by rw[hz3];intro u rE;obtain⟨k,uf,rfl⟩:=cG.1 (by simpa using rE:u∈te.ks.map ik);cases k<;>rfl);rw[<-hv]at hr;have uW:vp σ c (c.P n).blk:=⟨n,_,hg, .inl ⟨jd,rfl⟩⟩
       rw[Og,hz3]at hr;have hml:(madeCells (te.ks.map ik).toArray ((hi-lo)*te.ks.length)).toList.length=(hi-lo)*te.ks.length:=by simp[size_madeCells]
       have abl:(c.P n).off+lo*(c.P n).sz+(madeCells (te.ks.map ik).toArray ((hi-lo)*te.ks.length)).toList.length<=vals.size:=by rw[hml,<-Og];exact hbd
       have Du:=k1.setRow (eO abl);have ae2:=fY abl;generalize xV:dV vals ((c.P n).off+lo*(c.P n).sz) (madeCells (te.ks.map ik).toArray ((hi-lo)*te.ks.length)).toList=new at hr Du ae2;have amV:new.size=vals.size:=by rw[<-xV];exact eO abl
       have qT:∀b,b≠(c.P n).blk->(w.setRow (c.P n).blk new).heap[b]? =w.heap[b]? :=λb hb=>setRow_other w _ b _ hb;have hw:∀b,c.K b->(w.setRow (c.P n).blk new).heap[b]? =w.heap[b]? :=λb hk=>qT b (λe=>by subst e;exact b8.HH uW hk);have rQ:∀y∈xs.take lo++aT te.ks (hi-lo)++xs.drop hi,y.map CV.kd=te.ks:=by
        intro y hy;rw[a_,a_]at hy;rcases hy with (hy|hy)|hy
        ·exact mc y (kD hy)
        ·exact wD uV _ y hy
        ·exact mc y (kC hy)
       refine sA b8 dA hd hg (ob':= .row el ex (xs.take lo++aT te.ks (hi-lo)++xs.drop hi)) ?_ ?_ (λzs hz=>by cases hz) (w':=w.setRow (c.P n).blk new) ⟨#[],rfl,rfl,λj agg xs hj=>by simp at hj⟩ (λn hn=>by simp[cD]at hn) (λb _ Oc=>qT b (λe=>Oc (.inl ⟨jd,e⟩))) (by simp[kV]) rfl rfl rfl (.inl (exec hr))
       ·refine⟨⟨te,JC,fT,rQ⟩,⟨?_,λhn=>(by rw[jd]at hn;cases hn),λ_=>⟨new,Du,k2,k3,by rw[amV];exact k4,λi y j x lE hj=> ?_⟩⟩,λ_=>⟨λi j hh=>cq hh (sK rQ rD),λi j i' j' hh=>cq hh (sK rQ rD)⟩⟩
        ·rw[fS.n];simp[aT];omega
        ·have hl:=gV rD (rQ y (aQ lE)) hj;have jC:j<te.ks.length:=by rw[<-rQ y (aQ lE),bP];exact(aU.1 hj).1
         have toR:∀u,Sc u x->(if ex=ak then XC E (w.setRow (c.P n).blk new) (c.G n) i j u x else cY E (w.setRow (c.P n).blk new) c.K u x):=by
          intro u hu;split
          ·exact tz hl hu
          ·exact kj hl hu
         rw[GS v1 hle JD]at lE;rw[ae2,hml];by_cases hq:lo<=i/\i<hi
         ·rw[bC hq]at lE;obtain⟨ae5,k,hk1,rfl⟩:=tE lE hj;have h2:(i-lo+1)*te.ks.length<=(hi-lo)*te.ks.length:=b7 _ ae5;have h3:i*te.ks.length=lo*te.ks.length+(i-lo)*te.ks.length:=by rw[<-da];congr 1;omega
          rw[da]at h2;rw[fT,bC (by omega)];refine⟨ik k, ?_,toR _ ?_⟩
          ·have:=lk (n:=hi-lo) ae5 hk1;rw[cO,<-this];congr 1;omega
          ·have UZ:=bn.1 rD k (aQ hk1);cases k<;>first|exact⟨rfl,trivial⟩|exact⟨rfl,bK _⟩|cases UZ
         ·rw[bL hq]at lE;obtain⟨u,rE,CC⟩:=k5 i y j x lE hj;refine⟨u, ?_,toR u ?_⟩
          ·rw[bL ?_];exact rE;rw[fT];by_cases A_:i<lo
           ·have:(i+1)*te.ks.length<=lo*te.ks.length:=b7 _ A_;rw[da]at this;omega
           ·have:hi*te.ks.length<=i*te.ks.length:=b7 _ (by omega);have h3:hi*te.ks.length=lo*te.ks.length+(hi-lo)*te.ks.length:=by rw[<-da];congr 1;omega
            omega
          ·split at CC
           ·exact tC CC hl
           ·exact oP CC hl
       ·rintro b (hb|⟨_,i,j,hh,_⟩)
        ·exact .inl hb
        ·exact cq hh (sK rQ rD)
      ·omega
    unfold Qc at h2;cases v with
    |nl=>obtain rfl:=aF h2;exact gj b8 dA hd sv (λn hn=>by simp[cD]at hn) (ao _ _ ev)
    |own n=>
     obtain⟨ob,hg,h2⟩:=Rd.bind_some h2;have hg:=dp hg;cases ob with
     |row e' ex xs=>obtain⟨te,q1,h2⟩:=Rd.bind_some h2;obtain⟨q2,h2⟩:=cE h2;obtain rfl:=aF h2;simp only[aK]at q2;have:=aW q2.1;subst this;have ev:a.eval x=lj (c.P n):=ev;have:=main n ex xs 0 xs.length te hg (dP q1) q2.2 (by rw[ev];exact va b8 hg);simpa using this
     |_=>simp at h2
    |vw n lo hi=>
     obtain⟨ob,hg,h2⟩:=Rd.bind_some h2;have hg:=dp hg;cases ob with
     |row e' ex xs=>obtain⟨te,q1,h2⟩:=Rd.bind_some h2;obtain⟨q2,h2⟩:=cE h2;obtain rfl:=aF h2;simp only[aK]at q2;have:=aW q2.1;subst this;exact main n ex xs lo hi te hg (dP q1) q2.2 ev
     |_=>simp at h2
    |_=>simp at h2
   |_=>simp at h
  ·simp at h
 ·simp at h
end
end Go.FG

namespace Go.FG
def jO(D:az (aG×Obj)):az (aG×eu):=D.map λd=>(cW d.1, .o d.2)
def tF(D:az (aG×Obj))(m:aG):Prop:=∃x,(m,x)∈D
theorem W5:∀(D:az (aG×Obj)) (σ:St),(∀m,(wr σ (jO D) (cW m)=σ (cW m)/\¬tF D m)\/∃x,(m,x)∈D/\wr σ (jO D) (cW m)= .o x)/\∀m,slot (wr σ (jO D)) m=slot σ m:=by
 intro D;induction D with
 |nil=>intro σ;exact⟨λm=> .inl ⟨rfl,λ⟨x,hx⟩=>by cases hx⟩,λm=>rfl⟩
 |cons d D ih=>
  intro σ;obtain⟨n,x⟩:=d;obtain⟨h1,h2⟩:=ih (pf σ (cW n) (.o x));refine⟨λm=> ?_,λm=> ?_⟩
  ·show(wr (pf σ (cW n) (.o x)) (jO D) (cW m)=_/\_)\/∃y,_/\wr (pf σ (cW n) (.o x)) (jO D) (cW m)=_;rcases h1 m with ⟨q1,q2⟩|⟨y,q1,q2⟩
   ·rw[pE]at q1;by_cases hm:m=n
    ·subst hm;exact .inr ⟨x,by simp,by rw[q1,bC rfl]⟩
    ·refine .inl ⟨by rw[q1,bL hm],λ⟨y,hy⟩=> ?_⟩;rcases cz.1 hy with hy|hy
     ·cases hy;exact hm rfl
     ·exact q2 ⟨y,hy⟩
   ·exact .inr ⟨y,cU _ q1,q2⟩
  ·show slot (wr (pf σ (cW n) (.o x)) (jO D)) m=_;rw[h2,iY]
section
variable {P:cQ} {E:fB} {σ:St} {a:Act} {w:bF} {c:eK} {o:eV} {nm:aG} {e:rX}
theorem GQ(b8:Ok E σ w c)(dA:eZ E σ a w c){o:eV}(hd:∀d,o.dst=aj d->d<a.tmps.size){D:az (aG×Obj)}{s:SV}{v:bg}{w':bF}{c':eK}
  (hA:jh σ c c')
  (mq:∀n x,(n,x)∈D->pk E w' c' n x)
  (py:∀n x b,(n,x)∈D->fa c' n x b->(jH (tF D) σ c b\/w.heap.size<=b)/\¬c'.K b)
  (QK:∀n x n' x' b,(n,x)∈D->(n',x')∈D->fa c' n x b->fa c' n' x' b->n=n')
  (Hi:∀n xs,(n,Obj.box xs)∈D->∀a∈xs,∀m∈bI a,σ (cW m)≠ .jE\/tF D m)
  (hK:∀b,c.K b->c'.K b) (TP:∀b,c'.K b->c.K b\/jH (tF D) σ c b\/w.heap.size<=b) (E2:∀b,c'.K b->b<w'.heap.size)
  (hW:∀b,b<w.heap.size->¬jH (tF D) σ c b->w'.heap[b]? =w.heap[b]?) (fT:w.heap.size<=w'.heap.size) (Nd:w'.os=w.os) (U3:w'.tape=w.tape) (UY:w'.output=w.output)
  (wK:iU E w' c' s v) (zw:∀n∈cD s,σ (cW n)≠ .jE\/tF D n):
  Ok E (wr σ (jO D++dw o s)) w' c'/\eZ E (wr σ (jO D++dw o s)) (a.put o.dst v) w' c'/\nR σ c w (wr σ (jO D++dw o s)) c' w':=by
 rw[NW];obtain⟨d1,d2⟩:=W5 D σ;let σ1:=wr σ (jO D);obtain⟨s1,s2,s3⟩:=rk σ1 o s;have key:∀m,(wr σ1 (dw o s) (cW m)=σ (cW m)/\¬tF D m)\/∃x,(m,x)∈D/\wr σ1 (dw o s) (cW m)= .o x:=λm=>by rw[s3];exact d1 m
 have h_:∀m,(σ (cW m)≠ .jE\/tF D m)->wr σ1 (dw o s) (cW m)≠ .jE:=by
  intro m hm;rcases key m with ⟨h1,h2⟩|⟨x,_,h2⟩
  ·rw[h1];exact hm.resolve_right h2
  ·rw[h2];simp
 have get:∀m x,tF D m->wr σ1 (dw o s) (cW m)= .o x->(m,x)∈D:=by
  intro m x hm hx;rcases key m with ⟨_,h2⟩|⟨y,h1,h2⟩
  ·exact cq hm h2
  ·rw[h2]at hx;cases hx;exact h1
 have hh:=b8.change (σ':=wr σ1 (dw o s)) (w':=w') (c':=c') (tF D) (λm hm=>(key m).elim (λh=>h.1) (λ⟨x,h1,_⟩=>cq ⟨x,h1⟩ hm)) (λm hm=>h_ m (.inl hm)) hA hW fT hK TP E2
  (λm x hm ho=>mq m x (get m x hm ho)) (λm x b hm ho hf=>py m x b (get m x hm ho) hf) (λm x m' x' b hm vS ho ug hf wH=>QK m x m' x' b (get m x hm ho) (get m' x' vS ug) hf wH)
  (λm xs hm ho y hy n j9=>h_ n (Hi m xs (get m _ hm ho) y hy n j9)) Nd U3 UY
 refine⟨hh.1, ?_,hh.2⟩
 refine dA.change b8 hh.2 hA (λm hm=>h_ m (.inl hm)) o v (λn j9=>by rw[s1 n j9];exact d2 n) (λd ho=>⟨hd d ho, ?_, ?_⟩)
 ·rw[s2 d ho];exact wK
 ·rw[s2 d ho];intro n j9;exact h_ n (zw n j9)
theorem Jr(b8:Ok E σ w c)(dA:eZ E σ a w c){o:eV}(hd:∀d,o.dst=aj d->d<a.tmps.size){D:az (aG×Obj)}{s:SV}{v:bg}{w':bF}{c':eK}
  (hA:jh σ c c')
  (mq:∀n x,(n,x)∈D->pk E w' c' n x)
  (py:∀n x b,(n,x)∈D->fa c' n x b->(jH (tF D) σ c b\/w.heap.size<=b)/\¬c'.K b)
  (QK:∀n x n' x' b,(n,x)∈D->(n',x')∈D->fa c' n x b->fa c' n' x' b->n=n')
  (Hi:∀n xs,(n,Obj.box xs)∈D->∀a∈xs,∀m∈bI a,σ (cW m)≠ .jE\/tF D m)
  (hK:∀b,c.K b->c'.K b) (TP:∀b,c'.K b->c.K b\/jH (tF D) σ c b\/w.heap.size<=b) (E2:∀b,c'.K b->b<w'.heap.size)
  (hW:∀b,b<w.heap.size->¬jH (tF D) σ c b->w'.heap[b]? =w.heap[b]?) (fT:w.heap.size<=w'.heap.size) (Nd:w'.os=w.os) (U3:w'.tape=w.tape) (UY:w'.output=w.output)
  (wK:iU E w' c' s v) (zw:∀n∈cD s,σ (cW n)≠ .jE\/tF D n)
  (hr:(execOp a.eval o).run P w= .ok (.value v) w'):gA P E σ a w c o (jO D++dw o s):=by intro K Q hQ;obtain⟨h1,h2,h3⟩:=GQ b8 dA hd hA mq py QK Hi hK TP E2 hW fT Nd U3 UY wK zw;exact wB hr (hQ v w' c' h1 h2 h3 hA.w)
def Ag(σ:St)(c:eK)(m:aD aG)(u:bg):CV->Prop
 | .l e ys=>(m=ao/\ys=[]/\u= .slice ao 0 0)\/∃nm,m=aj nm/\u=lj (c.P nm)/\σ (cW nm)= .o (.row e ak ys)
 |x=>Sc u x
def Dg(L:az aG):az (aG×Obj):=L.map λn=>(n, .dead)
theorem AR(L:az aG):nN L=jO (Dg L):=by unfold nN jO Dg;rw[jU];rfl
theorem UD{k:Ck}{x:AV}{cv:CV}{ws:az (aG×eu)}(h:(GY ak k x).val σ=aj (cv,ws)):
  cv.kd=k/\∃m:aD aG,ws=nN m.toList/\(∀nm,m=aj nm->∃ob,σ (cW nm)= .o ob)/\∀u,ea E w c x u->Ag σ c m u cv:=by
 have pl:plain [k]=ak->cv.kd=k/\∃m:aD aG,ws=nN m.toList/\(∀nm,m=aj nm->∃ob,σ (cW nm)= .o ob)/\∀u,ea E w c x u->Ag σ c m u cv:=by
  intro hp;have YP:cv.kd=k/\ws=[]:=by
   cases k<;>cases x<;>simp[GY,plain]at h hp<;>first
    |(obtain⟨rfl,rfl⟩:=h;exact⟨rfl,rfl⟩)
    |(split at h<;>simp at h;rename_i hk;subst hk;obtain⟨rfl,rfl⟩:=h;exact⟨rfl,rfl⟩)
  refine⟨YP.1,ao,YP.2,λnm h=>(by cases h),λu hu=> ?_⟩
  obtain⟨_,h2,h3,_⟩:=xR hp h hu;cases cv<;>first|exact h2|simp[tc]at h3
 cases k with
 |i=>exact pl rfl
 |b=>exact pl rfl
 |s=>exact pl rfl
 |o=>cases x<;>simp[GY]at h
 |l e=>
  cases x with
  |nl=>obtain⟨rfl,rfl⟩:=bU (aF h);exact⟨rfl,ao,rfl,λnm h=>(by cases h),λu hu=> .inl ⟨rfl,rfl,hu⟩⟩
  |sh e' xs=>simp[GY]at h
  |own n=>
   obtain⟨ob,hg,h⟩:=Rd.bind_some h;have hg:=dp hg;cases ob with
   |row e' s9 xs=>obtain⟨h1,h⟩:=cE h;obtain⟨rfl,rfl⟩:=bU (aF h);simp only[aK]at h1;have:=aW h1.1;subst this;obtain rfl:=h1.2;exact⟨rfl,aj n,rfl,λnm h=>(by cases h;exact⟨_,hg⟩),λu hu=> .inr ⟨n,rfl,hu,hg⟩⟩
   |fE=>simp at h
   |_=>simp at h
  |_=>simp[GY]at h
theorem Qg:∀{ks:az Ck} {xs:az AV} {cs:az CV} {ws:az (aG×eu)} (h:(xS ak ks xs).val σ=aj (cs,ws)),cs.map CV.kd=ks/\xs.length=ks.length/\∃(L:az aG) (M:aG->aD aG),ws=nN L/\
  (∀nm∈L,∃ob,σ (cW nm)= .o ob)/\(∀j nm,M j=aj nm->nm∈L)/\(L.Nodup->∀i j nm,M i=aj nm->M j=aj nm->i=j)/\
  ∀(vals:de bg),fM E w c vals xs->∀(q:aG) (x:CV),cs[q]? =aj x->∃u:bg,vals[q]? =aj u/\Ag σ c (M q) u x:=by
 intro ks;induction ks with
 |nil=>
  intro xs cs ws h;cases xs with
  |nil=>obtain⟨rfl,rfl⟩:=bU (aF h);exact⟨rfl,rfl,[],λ_=>ao,rfl,λnm h=>(by cases h),λj nm h=>(by cases h),λ_ i j nm h=>(by cases h),λ_ _ q x hq=>by simp at hq⟩
  |cons=>simp[xS]at h
 |cons k ks ih=>
  intro xs cs ws h;cases xs with
  |nil=>simp[xS]at h
  |cons x xs=>
   obtain⟨⟨cv,w1⟩,h1,h⟩:=Rd.bind_some h;obtain⟨⟨cr,w2⟩,h2,h⟩:=Rd.bind_some h;obtain⟨rfl,rfl⟩:=bU (aF h);obtain⟨e1,m,rfl,e2,e3⟩:=UD (E:=E) (w:=w) (c:=c) h1;obtain⟨i1,i2,L,M,rfl,i4,i5,i6,i7⟩:=ih h2;refine⟨by simp[e1,i1],by simp[i2],m.toList++L,λj=>match j with|0=>m|j+1=>M j,by simp[nN], ?_, ?_, ?_, ?_⟩
   ·intro nm X_;rcases a_.1 X_ with h|h
    ·exact e2 nm (by simpa using h)
    ·exact i4 nm h
   ·intro j nm hj;cases j with
    |zero=>exact bN _ (by simpa using hj)
    |succ j=>exact bH _ (i5 j nm hj)
   ·intro Hk i j nm hi hj;obtain⟨n1,n2,n3⟩:=dX.1 Hk;cases i with
    |zero=>
     cases j with
     |zero=>rfl
     |succ j=>exact cq rfl (n3 nm (by simpa using hi) nm (i5 j nm hj))
    |succ i=>
     cases j with
     |zero=>exact cq rfl (n3 nm (by simpa using hj) nm (i5 i nm hi))
     |succ j=>rw[i6 n2 i j nm hi hj]
   ·intro vals hv q y hq;cases q with
    |zero=>cases hq;obtain⟨u,hu,ha⟩:=hv.2 0 x rfl;exact⟨u,hu,e3 u ha⟩
    |succ q=>
     have LC:fM E w c (vals.extract 1 vals.size) xs:=by
      refine⟨by simp;have:=hv.1;simp at this;omega,λj b hj=> ?_⟩
      obtain⟨u,hu,hb⟩:=hv.2 (j+1) b hj;refine⟨u, ?_,hb⟩
      have:=(dN.1 hu).1;rw[dS,bC (by omega),iK];exact hu
     obtain⟨u,r1,r2⟩:=i7 _ LC q y hq;refine⟨u, ?_,r2⟩
     rw[dS]at r1;split at r1
     ·rw[iK];exact r1
     ·cases r1
theorem Je{k:Ck}{x:AV}{cv:CV}{ws:az (aG×eu)}(b8:Ok E σ w c)(h:(GY aq k x).val σ=aj (cv,ws)):cv.kd=k/\ws=[]/\∀u,ea E w c x u->cY E w c.K u cv:=by
 have pl:plain [k]=ak->cv.kd=k/\ws=[]/\∀u,ea E w c x u->cY E w c.K u cv:=by
  intro hp;have YP:cv.kd=k/\ws=[]:=by
   cases k<;>cases x<;>simp[GY,plain]at h hp<;>first
    |(obtain⟨rfl,rfl⟩:=h;exact⟨rfl,rfl⟩)
    |(split at h<;>simp at h;rename_i hk;subst hk;obtain⟨rfl,rfl⟩:=h;exact⟨rfl,rfl⟩)
  refine⟨YP.1,YP.2,λu hu=> ?_⟩
  obtain⟨_,h2,h3,_⟩:=xR hp h hu;exact kj h3 h2
 cases k with
 |i=>exact pl rfl
 |b=>exact pl rfl
 |s=>exact pl rfl
 |o=>cases x<;>simp[GY]at h
 |l e=>
  cases x with
  |nl=>obtain⟨rfl,rfl⟩:=bU (aF h);exact⟨rfl,rfl,λu hu=>by rw[show u=_ from hu];exact .nl _ _ _⟩
  |sh e' xs=>obtain⟨h1,h⟩:=cE h;obtain⟨rfl,rfl⟩:=bU (aF h);simp only[aK]at h1;have:=aW h1.1;subst this;exact⟨rfl,rfl,λu hu=>hu⟩
  |own n=>
   obtain⟨ob,hg,h⟩:=Rd.bind_some h;have hg:=dp hg;cases ob with
   |row e' s9 xs=>obtain⟨h1,h⟩:=cE h;simp at h
   |fE e' xs=>
    obtain⟨h1,h⟩:=cE h;obtain⟨rfl,rfl⟩:=bU (aF h);simp only[aK]at h1;have:=aW h1.1;subst this;refine⟨rfl,rfl,λu hu=> ?_⟩
    have hu:u=lj (c.P n):=hu;rw[hu];exact(b8.obj n _ hg).1
   |_=>simp at h
  |_=>simp[GY]at h
theorem GZ(b8:Ok E σ w c):∀{ks:az Ck} {xs:az AV} {cs:az CV} {ws:az (aG×eu)} (h:(xS aq ks xs).val σ=aj (cs,ws)),cs.map CV.kd=ks/\xs.length=ks.length/\ws=[]/\
  ∀(vals:de bg),fM E w c vals xs->∀(q:aG) (x:CV),cs[q]? =aj x->∃u:bg,vals[q]? =aj u/\cY E w c.K u x:=by
 intro ks;induction ks with
 |nil=>
  intro xs cs ws h;cases xs with
  |nil=>obtain⟨rfl,rfl⟩:=bU (aF h);exact⟨rfl,rfl,rfl,λ_ _ q x hq=>by simp at hq⟩
  |cons=>simp[xS]at h
 |cons k ks ih=>
  intro xs cs ws h;cases xs with
  |nil=>simp[xS]at h
  |cons x xs=>
   obtain⟨⟨cv,w1⟩,h1,h⟩:=Rd.bind_some h;obtain⟨⟨cr,w2⟩,h2,h⟩:=Rd.bind_some h;obtain⟨rfl,rfl⟩:=bU (aF h);obtain⟨e1,e2,e3⟩:=Je b8 h1;obtain⟨i1,i2,i3,i7⟩:=ih h2;refine⟨by simp[e1,i1],by simp[i2],by rw[e2,i3];rfl,λvals hv q y hq=> ?_⟩
   cases q with
   |zero=>cases hq;obtain⟨u,hu,ha⟩:=hv.2 0 x rfl;exact⟨u,hu,e3 u ha⟩
   |succ q=>
    have LC:fM E w c (vals.extract 1 vals.size) xs:=by
     refine⟨by simp;have:=hv.1;simp at this;omega,λj b hj=> ?_⟩
     obtain⟨u,hu,hb⟩:=hv.2 (j+1) b hj;refine⟨u, ?_,hb⟩
     have:=(dN.1 hu).1;rw[dS,bC (by omega),iK];exact hu
    obtain⟨u,r1,r2⟩:=i7 _ LC q y hq;refine⟨u, ?_,r2⟩
    rw[dS]at r1;split at r1
    ·rw[iK];exact r1
    ·cases r1
end
end Go.FG

namespace Go.FG
section
variable {P:cQ} {E:fB} {σ:St} {a:Act} {w:bF} {c:eK} {o:eV} {nm:aG} {e:rX}
structure Inv (E:fB) (σ:St) (w:bF) (c:eK) (ex:aY) (ks:az Ck) (vals:de bg) (z:aX) (N:aG->aG->aD aG) (S:az aG):Prop where
 size:vals.size=z.length*ks.length
 sh:∀y∈z,y.map CV.kd=ks
 inS:∀i j nm,N i j=aj nm->nm∈S
 inj:∀i j i' j' nm,N i j=aj nm->N i' j'=aj nm->i=i'/\j=j'
 cell:∀(i:aG) (y:az CV) (j:aG) (x:CV),z[i]? =aj y->y[j]? =aj x->∃u:bg,vals[i*ks.length+j]? =aj u/\(if ex=ak then Ag σ c (N i j) u x else cY E w c.K u x)
theorem Inv.set{ex:aY}{ks:az Ck}{vals:de bg}{z:aX}{N:aG->aG->aD aG}{S:az aG}(h:Inv E σ w c ex ks vals z N S){i0:aG}(hi:i0<z.length){cs:az CV}{vs:de bg}(hk:cs.map CV.kd=ks)(QN:vs.size=ks.length)
  {M:aG->aD aG} {L:az aG} (hM:∀j nm,M j=aj nm->nm∈L) (hMi:∀i j nm,M i=aj nm->M j=aj nm->i=j) (hd:∀nm∈L,nm∉S)
  (hc:∀(q:aG) (x:CV),cs[q]? =aj x->∃u:bg,vs[q]? =aj u/\(if ex=ak then Ag σ c (M q) u x else cY E w c.K u x)):
  Inv E σ w c ex ks (dV vals (i0*ks.length) vs.toList) (z.set i0 cs) (λi j=>if i=i0 then M j else N i j) (S++L):=by
 have h1:(i0+1)*ks.length<=z.length*ks.length:=b7 _ hi;rw[da]at h1;have hb:i0*ks.length+vs.toList.length<=vals.size:=by rw[h.size,show vs.toList.length=ks.length from QN];omega
 refine⟨by rw[eO hb,cw];exact h.size, ?_, ?_, ?_, ?_⟩
 ·intro y hy;rcases gT hy with hy|hy
  ·exact h.sh y hy
  ·rw[hy];exact hk
 ·intro i j nm hn;replace hn:(if i=i0 then M j else N i j)=aj nm:=hn;split at hn
  ·exact bH _ (hM j nm hn)
  ·exact bN _ (h.inS i j nm hn)
 ·intro i j i' j' nm hn j9;replace hn:(if i=i0 then M j else N i j)=aj nm:=hn;replace j9:(if i'=i0 then M j' else N i' j')=aj nm:=j9;split at hn
  ·rename_i e1;split at j9
   ·rename_i e2;exact⟨e1.trans e2.symm,hMi j j' nm hn j9⟩
   ·exact cq (h.inS i' j' nm j9) (hd nm (hM j nm hn))
  ·split at j9
   ·exact cq (h.inS i j nm hn) (hd nm (hM j' nm j9))
   ·exact h.inj i j i' j' nm hn j9
 ·intro i y j x hy hx;rw[N1]at hy;rw[fY hb,show vs.toList.length=ks.length from QN];by_cases Hf:i0=i
  ·subst Hf;rw[bC rfl,bC hi]at hy;cases hy;have hj:j<ks.length:=by rw[<-hk,bP];exact(aU.1 hx).1
   obtain⟨u,hu,hr⟩:=hc j x hx;refine⟨u, ?_,by simpa using hr⟩
   rw[bC (by omega),cO,<-hu];congr 1;omega
  ·rw[bL Hf]at hy;obtain⟨u,hu,hr⟩:=h.cell i y j x hy hx;have hj:j<ks.length:=by rw[<-h.sh y (aQ hy),bP];exact(aU.1 hx).1
   refine⟨u, ?_,by rw[show(if i=i0 then M j else N i j)=N i j from bL (λe=>Hf e.symm)];exact hr⟩
   rw[bL ?_];exact hu;rcases N3 Hf with jD|hgt
   ·have:(i0+1)*ks.length<=i*ks.length:=b7 _ jD;rw[da]at this;omega
   ·have:(i+1)*ks.length<=i0*ks.length:=b7 _ hgt;rw[da]at this;omega
theorem MS(b8:Ok E σ w c)(dA:eZ E σ a w c){ex:aY}{ks:az Ck}(kH:0<ks.length):∀(ps:az (aG×dn)) (z z':aX) (ws:az (aG×eu)),(Jd ex ks ps z).val σ=aj (z',ws)->
  z'.length=z.length/\∃L,ws=nN L/\(∀nm∈L,∃ob,σ (cW nm)= .o ob)/\∀vals N S,(S++L).Nodup->Inv E σ w c ex ks vals z N S->
   ∃iM N',oY (λi=>aj (i*ks.length,ks.length)) vals (ps.map λ(i,x)=>(i,a.eval x))=aj iM/\Inv E σ w c ex ks iM z' N' (S++L):=by
 intro ps;induction ps with
 |nil=>intro z z' ws h;obtain⟨rfl,rfl⟩:=bU (aF h);exact⟨rfl,[],rfl,λnm h=>(by cases h),λvals N S _ hi=>⟨vals,N,rfl,by rw[di];exact hi⟩⟩
 |cons p r ih=>
  obtain⟨i0,x⟩:=p;intro z z' ws h;obtain⟨v,h1,h⟩:=Rd.bind_some h;obtain⟨Nf,hkv⟩:=lN dA h1;cases v with
  |v g ys=>
   obtain⟨h2,h⟩:=cE h;have h2:=cC h2;obtain⟨⟨cs,w1⟩,h3,h⟩:=Rd.bind_some h;obtain⟨⟨z1,w2⟩,h4,h⟩:=Rd.bind_some h;obtain⟨rfl,rfl⟩:=bU (aF h);have nh:=pO.cells Nf
   have GY:cs.map CV.kd=ks/\ys.length=ks.length/\∃(L:az aG) (M:aG->aD aG),w1=nN L/\(∀nm∈L,∃ob,σ (cW nm)= .o ob)/\(∀j nm,M j=aj nm->nm∈L)/\(L.Nodup->∀i j nm,M i=aj nm->M j=aj nm->i=j)/\
     ∀(q:aG) (x:CV),cs[q]? =aj x->∃u:bg,(a.eval ‹dn›).cells[q]? =aj u/\(if ex=ak then Ag σ c (M q) u x else cY E w c.K u x):=by
    cases ex with
    |true=>obtain⟨q1,q2,L,M,q3,q4,q5,q6,q7⟩:=Qg (E:=E) (w:=w) (c:=c) h3;exact⟨q1,q2,L,M,q3,q4,q5,q6,λq x hq=>by simpa using q7 _ nh q x hq⟩
    |false=>obtain⟨q1,q2,q3,q4⟩:=GZ b8 h3;exact⟨q1,q2,[],λ_=>ao,q3,λnm h=>(by cases h),λj nm h=>(by cases h),λ_ i j nm h=>(by cases h),λq x hq=>by simpa using q4 _ nh q x hq⟩
   obtain⟨q1,q2,L,M,rfl,q4,q5,q6,q7⟩:=GY;obtain⟨i1,L2,rfl,i3,i4⟩:=ih _ _ _ h4;rw[cw]at i1;refine⟨i1,L++L2,by simp[nN],λnm hn=>(a_.1 hn).elim (q4 nm) (i3 nm),λvals N S Hk hinv=> ?_⟩
   have aff:((S++L)++L2).Nodup:=by rw[cj];exact Hk
   obtain⟨n1,n2,n3⟩:=dX.1 aff;obtain⟨m1,m2,m3⟩:=dX.1 n1;have QN:(a.eval x).cells.size=ks.length:=by rw[nh.1,q2]
   have ae7:=hinv.set (i0:=i0) (by omega) q1 QN q5 (q6 m2) (λnm hn hs=>m3 nm hs nm hn rfl) q7;obtain⟨iM,N',f1,f2⟩:=i4 _ _ _ aff ae7;refine⟨iM,N', ?_,by rw[<-cj];exact f2⟩
   have h1:(i0+1)*ks.length<=z.length*ks.length:=b7 _ h2;rw[da,<-hinv.size]at h1;simp only[eW,oY];rw[bL (by simp[QN];omega)];have:=Dn (off:=i0*ks.length) (vs:=(a.eval x).cells) (cells:=vals) (by omega);rw[<-f1];exact ml (λq=>oY (λi=>aj (i*ks.length,ks.length)) q _) this
  |jc=>simp at h
  |un=>simp at h
theorem BH{t el n:aG}{inf:IB}{z:bg}{ks:az Ck}{ps:de (aG×bg)}{cells:de bg}(hu:P.underlying t=aj (.slice el))(hi:P.info? el=aj inf)(fT:inf.size=ks.length)(hz:inf.zero=aj z)(hzc:z.cells=(ks.map ik).toArray)
  (h24:n*ks.length<=16777216) (hf:oY (λi=>aj (i*ks.length,ks.length)) (madeCells (ks.map ik).toArray (n*ks.length)) ps.toList=aj cells):
  (yJ t n ps).run P w= .ok (.slice (aj (ad w.heap.size 0)) n n) (w.alloc (.cells cells el)):=by
 have amh:¬(n*ks.length>2^24):=by omega
 by_cases h0:n*ks.length=0
 ·have e0:(Array.range (n*ks.length)).map (λi=>(#[]:de bg)[i%(#[]:de bg).size]!)=madeCells (ks.map ik).toArray (n*ks.length):=by rw[h0];simp[madeCells,Array.range_zero']
  simp only[yJ,cg,run_underlying hu,bB,sizeOf,typeInfo,program,mJ,hi,fT,cL,h0,if_true,mF];rw[h0]at e0 hf;rw[e0,hf];simp only[newRow,newObj,cg,mJ,bB,cL];rfl
 ·have e0:(Array.range (n*ks.length)).map (λi=>z.cells[i%z.cells.size]!)=madeCells (ks.map ik).toArray (n*ks.length):=by rw[hzc];rfl
  simp only[yJ,cg,run_underlying hu,bB,sizeOf,typeInfo,program,mJ,hi,fT,amh,if_false,cL,h0,zeroValue,hz,mF];rw[e0,hf];simp only[newRow,newObj,cg,mJ,bB,cL];rfl
theorem qo:∀{l:az aG},sG l=ak->l.Nodup
 |[],_=> .nil
 |n::r,h=>by
  simp only[sG,aK,dD]at h;refine j5.2 ⟨λhm=> ?_,qo h.2⟩;have:l_ n r=true:=by
   have:=h.1;clear h;induction r with
   |nil=>cases hm
   |cons m r ih=>
    rcases cz.1 hm with rfl|hm
    ·simp[l_]
    ·simp only[l_,ie]at this⊢;rw[ih hm this.2];simp
  rw[this]at h;cases h.1
theorem qW{α β:Type}{f:α->β}:∀{l:az α},(l.map f).Nodup->l.Nodup
 |[],_=> .nil
 |x::l,h=>by
  rw[eW,j5]at h;exact j5.2 ⟨λhm=>h.1 (cG.2 ⟨x,hm,rfl⟩),qW h.2⟩
theorem UN{ks:az Ck}(hf:flat E ks=ak){e:aG}(hm:Ck.l e∈ks):∃t,E.ty e=aj t/\plain t.ks=true:=by
 have h:=bn.1 hf _ hm;replace h:(match E.ty e with|some ti=>plain ti.ks|none=>aq)=true:=h;cases ht:E.ty e with
 |none=>rw[ht]at h;cases h
 |some t=>rw[ht]at h;exact⟨t,rfl,h⟩
theorem NK(b8:Ok E σ w c){n e:aG}{ex:aY}{xs:aX}(hg:σ (cW n)= .o (.row e ex xs)){t:TI}(ht:E.ty e=aj t)(hp:plain t.ks=ak):
  (c.P n).sz=t.ks.length/\(∀y∈xs,y.map CV.kd=t.ks)/\iT w (c.P n) xs (λ_ _ u x=>Sc u x):=by
 obtain⟨⟨t2,q1,q2,q3⟩,q4,_⟩:=b8.obj n _ hg;obtain rfl:t=t2:=aF (ht.symm.trans q1);refine⟨q2,q3,q4.frame (λ_=>rfl) (λi j y x u hi hj hr=> ?_)⟩
 have hl:=gV hp (q3 y (aQ hi)) hj;split at hr
 ·exact tC hr hl
 ·exact oP hr hl
theorem P_(b8:Ok E σ w c){ks:az Ck}(hf:flat E ks=ak){m:aD aG}{G:aG->aG->Pl}{i j:aG}(hG:G i j=match m with|some n=>c.P n|none=>JM E ks i j){u:bg}{x:CV}(hx:ks[j]? =aj x.kd){w':bF}(hw:∀b,b<w.heap.size->(∃n,m=aj n/\b=(c.P n).blk)->w'.heap[b]? =w.heap[b]?)(h:Ag σ c m u x):XC E w' G i j u x:=by
 cases x with
 |l e ys=>
  obtain⟨t,ht,hp⟩:=UN hf (aQ hx);rcases h with ⟨rfl,rfl,rfl⟩|⟨n,rfl,rfl,hg⟩
  ·refine⟨by rw[hG];rfl,t,ht,hp, ?_,λy hy=>(by cases hy),⟨by rw[hG];rfl,λ_=>⟨rfl,by rw[hG];rfl⟩,λhn=>by rw[hG]at hn;cases hn⟩⟩
   rw[hG];show(match ks[j]? with|some (.l e)=>(match E.ty e with|some t=>t.ks.length|none=>0)|_=>0)=_;rw[hx];simp only[CV.kd,ht]
  ·obtain⟨q1,q2,q3⟩:=NK b8 hg ht hp;refine⟨by rw[hG],t,ht,hp,by rw[hG];exact q1,q2, ?_⟩
   rw[hG];refine q3.frame (λhn=>hw _ (vp.lt b8 ⟨n,_,hg, .inl ⟨hn,rfl⟩⟩) ⟨n,rfl,rfl⟩) (λ_ _ _ _ _ _ _ h=>h)
 |i=>exact h
 |b=>exact h
 |s=>exact h
theorem CI(hE:dZ P E)(b8:Ok E σ w c)(dA:eZ E σ a w c)(hd:∀d,o.dst=aj d->d<a.tmps.size){t n:aG}{ps:de (aG×dn)}(ho:o.op= .buildSlice t n ps)(h:(lG E nm o).val σ=aj e)(hc:e.cond=ak):gA P E σ a w c o e.ws:=by
 simp only[lG,ho]at h;obtain⟨ti,h1,h⟩:=Rd.bind_some h;have h1:=dP h1;split at h
 ·rename_i el s_ zw;obtain⟨te,h2,h⟩:=Rd.bind_some h;have h2:=dP h2;obtain⟨uV,h⟩:=cE h;obtain⟨ex0,_,h⟩:=Rd.bind_some h;obtain⟨⟨xs,ws⟩,h3,h⟩:=Rd.bind_some h;obtain⟨u,h4,h⟩:=Rd.bind_some h;obtain⟨hf,jD⟩:=j8 h4;obtain rfl:=aF h;simp only[aK]at hc;obtain⟨h24,Hk⟩:=hc;have h24:=cC h24;have hu:=oJ hE h1 s_ zw;obtain⟨inf,hi,fT,_,kH,hz⟩:=hE.info el te h2;obtain⟨z,Io,CG,_⟩:=hz uV;have Lv:(ex0&&flat E te.ks)=ak->flat E te.ks=true:=λh=>by simp only[aK]at h;exact h.2
  generalize (ex0&&flat E te.ks)=ex at h3 Lv⊢;obtain⟨hlen,L,rfl,hL,QJ⟩:=MS (c:=c) b8 dA kH ps.toList _ _ _ h3;have Hk:L.Nodup:=by have:=qo Hk;unfold nN at this;rw[jU]at this;exact qW this
  obtain⟨vals,N,aeZ,hinv⟩:=QJ (madeCells (te.ks.map ik).toArray (n*te.ks.length)) (λ_ _=>ao) [] (by simpa using Hk)
   ⟨by rw[size_madeCells];simp[aT],wD uV n,λi j nm h=>(by cases h),λi j i' j' nm h=>(by cases h),λi y j x hy hx=>by
    obtain⟨gO,k,hk,rfl⟩:=tE hy hx;refine⟨ik k,lk gO hk, ?_⟩
    have hko:=bn.1 uV k (aQ hk);split
    ·cases k with
     |l e=>exact .inl ⟨rfl,rfl,rfl⟩
     |o=>cases hko
     |s=>exact⟨rfl,bK _⟩
     |_=>exact⟨rfl,trivial⟩
    ·exact Ku hko⟩
  rw[gg]at hinv;have hr:=BH (P:=P) (w:=w) (n:=n) (ps:=ps.map λ(i,x)=>(i,a.eval x)) hu hi fT Io CG h24 (by rw[zd];exact aeZ);have JD:xs.length=n:=by rw[hlen];simp[aT]
  let g:aG->aG->Pl:=λi j=>match N i j with|some m=>c.P m|none=>JM E te.ks i j
  let c':eK:=⟨λm=>if m=nm then⟨aq,w.heap.size,0,n,n,te.ks.length⟩else c.P m,λm=>if m=nm then g else c.G m,c.K⟩
  have hP:c'.P nm=⟨aq,w.heap.size,0,n,n,te.ks.length⟩:=bC rfl;have hG:c'.G nm=g:=bC rfl;have hA:jh σ c c':=λm hm=>by
   have:m≠nm:=by rintro rfl;rcases hm with h|h;exact h hf;omega
   exact⟨bL this,bL this⟩
  have gN:∀i j,(g i j).nil=aq->∃m ob,N i j=aj m/\g i j=c.P m/\m∈L/\σ (cW m)= .o ob:=by
   intro i j hn;cases hm:N i j with
   |none=>simp only[g,hm]at hn;cases hn
   |some m=>obtain⟨ob,mq⟩:=hL m (hinv.inS i j m hm);exact⟨m,ob,rfl,by simp only[g,hm],hinv.inS i j m hm,mq⟩
  have inn:∀i j,ex=ak->fV xs i j->(g i j).nil=aq->∃m el2 ys,N i j=aj m/\g i j=c.P m/\m∈L/\σ (cW m)= .o (.row el2 ak ys)/\(c.P m).nil=false:=by
   rintro i j hex ⟨y,x,hy,hx,hl⟩ hn;obtain⟨m,ob,q1,q2,q3,q4⟩:=gN i j hn;obtain⟨u,_,hr⟩:=hinv.cell i y j x hy hx;rw[bC hex,q1]at hr;cases x with
   |l e2 ys=>
    rcases hr with ⟨h,_⟩|⟨m',h,_,hg⟩
    ·cases h
    ·cases h;exact⟨m,e2,ys,q1,q2,q3,hg,by rw[<-q2];exact hn⟩
   |i=>simp[tc]at hl
   |b=>simp[tc]at hl
   |s=>simp[tc]at hl
  have QO:∀b,b<w.heap.size->(w.alloc (.cells vals el)).heap[b]? =w.heap[b]? :=λb hb=>heap_alloc_old w _ b hb;have mem:∀m x,(m,x)∈Dg L++[(nm,Obj.row el ex xs)]->(m∈L/\x= .dead)\/(m=nm/\x= .row el ex xs):=by
   intro m x hm;rcases a_.1 hm with hm|hm
   ·unfold Dg at hm;obtain⟨q,hq,h⟩:=cG.1 hm;cases h;exact .inl ⟨hq,rfl⟩
   ·rw[aZ]at hm;cases hm;exact .inr ⟨rfl,rfl⟩
  have hws:nN L++(cW nm,eu.o (.row el ex xs))::dw o (.v aq [.own nm])=jO (Dg L++[(nm,Obj.row el ex xs)])++dw o (.v aq [.own nm]):=by rw[AR];unfold jO;simp
  show gA P E σ a w c o (nN L++(cW nm,eu.o (.row el ex xs))::dw o (.v aq [.own nm]));rw[hws];refine Jr b8 dA hd (c':=c') (w':=w.alloc (.cells vals el)) (v:= .slice (aj (ad w.heap.size 0)) n n) hA ?_ ?_ ?_ ?_ (λ_ h=>h) (λ_ h=> .inl h) (λb hb=>jb (b8.lt b hb) (by simp)) (λb hb _=>QO b hb) (by simp) rfl rfl rfl ?_ ?_ ?_
  ·intro m x hm;rcases mem m x hm with ⟨_,rfl⟩|⟨rfl,rfl⟩
   ·trivial
   ·refine⟨⟨te,h2,by rw[hP],hinv.sh⟩, ?_,λhex=> ?_⟩
    ·rw[hP,hG];refine⟨JD.symm,λhn=>(by cases hn),λ_=>⟨vals,nr.alloc w _ el,cu _, ?_, ?_,λi y j x hy hx=> ?_⟩⟩
     ·show n<=2^63-1;have:n*1<=n*te.ks.length:=Nat.mul_le_mul_left _ kH;omega
     ·rw[hinv.size,JD];simp
     ·obtain⟨u,rE,CC⟩:=hinv.cell i y j x hy hx;refine⟨u,by simpa using rE, ?_⟩
      split at CC
      ·rename_i hex;rw[bC hex];refine P_ b8 (Lv hex) rfl ?_ (λb hb _=>QO b hb) CC;rw[<-hinv.sh y (aQ hy),bE,hx];rfl
      ·rename_i hex;rw[bL hex];exact CC.frame (λb hb=>QO b (b8.lt b hb)) (λ_ h=>h)
    ·rw[hP,hG];refine⟨λi j hh hn _=> ?_,λi j i' j' hh zu hn j9 hbk=> ?_⟩
     ·obtain⟨m',e2,ys,_,q2,_,q4,q5⟩:=inn i j hex hh hn;have:(c.P m').blk<w.heap.size:=vp.lt b8 ⟨m',_,q4, .inl ⟨q5,rfl⟩⟩;rw[q2];show(c.P m').blk≠w.heap.size;omega
     ·obtain⟨m1,e1,y1,p1,p2,_,p4,p5⟩:=inn i j hex hh hn;obtain⟨m2,e2,y2,r1,r2,_,r4,r5⟩:=inn i' j' hex zu j9;rw[p2,r2]at hbk;have:=b8.sep m1 _ m2 _ _ p4 r4 (.inl ⟨p5,rfl⟩) (.inl ⟨r5,hbk⟩);subst this;exact hinv.inj i j i' j' m1 p1 r1
  ·intro m x b hm py;rcases mem m x hm with ⟨_,rfl⟩|⟨rfl,rfl⟩
   ·exact py.elim
   ·rcases py with ⟨_,rfl⟩|⟨hex,i,j,hh,hn,rfl⟩
    ·rw[hP];exact⟨.inr (cu _),λhk=>by have:=b8.lt _ hk;exact cq this (bu _)⟩
    ·rw[hG]at hn⊢;obtain⟨m',e2,ys,_,q2,q3,q4,q5⟩:=inn i j hex hh hn;rw[q2];refine⟨.inl ⟨m',_,⟨.dead,bN _ (cG.2 ⟨m',q3,rfl⟩)⟩,q4, .inl ⟨q5,rfl⟩⟩,b8.kk m' _ _ q4 (.inl ⟨q5,rfl⟩)⟩
  ·intro m x m' x' b hm vS py QB;rcases mem m x hm with ⟨_,rfl⟩|⟨rfl,rfl⟩
   ·exact py.elim
   ·rcases mem m' x' vS with ⟨_,rfl⟩|⟨rfl,rfl⟩
    ·exact QB.elim
    ·rfl
  ·intro m zs hm;rcases mem m _ hm with ⟨_,h⟩|⟨_,h⟩<;>cases h
  ·show _=lj (c'.P nm);rw[hP];rfl
  ·intro m hm;have:m=nm:=by simpa [cD,bI]using hm
   subst this;exact .inr ⟨_,bH _ (aZ.2 rfl)⟩
  ·unfold execOp;rw[ho];exact iE hr
 ·simp at h
end
end Go.FG

namespace Go.FG
section
variable {P:cQ}
def lD(elem:TypeId)(size:aG)(base:aD Addr)(sLen sCap:aG)(s x:bg)(aT:aY)(n:aG)(GF:Sem (de bg)):Sem bg:=
 if sLen+n<=sCap then do
  let new<-GF
  if let aj a:=base then storeCells (a.add (sLen*size)) new.toList
  pure (.slice base (sLen+n) sCap)
 else do
  if((sLen+n:aG):aA)>ar.max/\(aT\/(<-typeInfo elem).bytes=0)then runtimePanic (.error "growslice: len out of range")
  if FU (sLen+n) sCap*(<-typeInfo elem).bytes>2^48 then(if aT then runtimePanic (.error "growslice: len out of range")else do
   if !(<-Builtin.mayShare size sLen n base x)then mark .noRoom
   unsupported (.resourceLimit "append: a slice or a string whose bytes no memory bears"))
  let JL<-choose (.appendCap (sLen+n) sCap elem)
  askRoom (JL*(<-typeInfo elem).bytes)
  let old<-eU size sLen s
  let new<-GF
  let rest:=fc (<-zeroValue elem).cells (JL-(sLen+n))
  pure (.slice (aj (<-newRow elem (old++new++rest))) (sLen+n) JL)
theorem yu{w:bF}{t u ty el:aG}{inf:IB}(hu:P.underlying t=aj (.slice el))(hi:P.info? el=aj inf)(hd:(∃e',P.underlying u=aj (.slice e'))\/P.underlying u=aj .string)
  {base:aD Addr} {sLen sCap m:aG} {x:bg} (hl:(oX x).run P w= .ok m w):
  (gY #[t,u] ty #[.slice base sLen sCap,x]).run P w=(lD el inf.size base sLen sCap (.slice base sLen sCap) x aq m (eU inf.size m x)).run P w:=by
 have hs:(sizeOf el).run P w= .ok inf.size w:=by simp[sizeOf,typeInfo,hi]
 rcases hd with ⟨e',hd⟩|hd<;>
  (simp only[gY,gQ,rJ,dF,cg,run_underlying hu,run_underlying hd,bB,hs,cL,hl,dj,if_false,bX,if_true,false_or,mF]
   unfold lD
   simp only[mF,cg,dj,if_false,false_or,cL]
   try rfl)
theorem BF{w:bF}{t u ty el:aG}{inf:IB}(hu:P.underlying t=aj (.slice el))(hi:P.info? el=aj inf){k:mI}(hd:P.underlying u=aj (.int k))
  {base:aD Addr} {sLen sCap m:aG} {x:bg} {k':mI} (hx:x= .int k' (m:aA)) (h1:m<=9223372036854775807) (h2:m*inf.bytes<=140737488355328):
  (gY #[t,u] ty #[.slice base sLen sCap,x]).run P w=(lD el inf.size base sLen sCap (.slice base sLen sCap) x ak m (if m*inf.size=0 then pure #[]else do pure (fc (<-zeroValue el).cells m))).run P w:=by
 have hs:(sizeOf el).run P w= .ok inf.size w:=by simp[sizeOf,typeInfo,hi]
 have ht:∀W,(typeInfo el).run P W= .ok inf W:=λW=>by simp[typeInfo,hi]
 have hw:ar.wrap (m:aA)=m:=by rw[pI];omega
 have c1:¬((m:aA)<0):=by omega
 have c2:¬((m:aA)*(inf.bytes:aA)>2^48):=by
  have a2:((m*inf.bytes:aG):aA)<=140737488355328:=by generalize m*inf.bytes=q at h2;omega
  rw[Ud]at a2;generalize (m:aA)*(inf.bytes:aA)=q at a2;have:(2:aA)^48=281474976710656:=by decide
  omega
 subst hx;have ha:(asInt (.int k' (m:aA))).run P w= .ok (m:aA) w:=by simp[asInt,asIntOf]
 simp only[gY,gQ,rJ,dF,cg,run_underlying hu,run_underlying hd,bB,hs,ht,ha,hw,c1,c2,cL,if_false,ba,dj,if_true,mF,dx];unfold lD;simp only[mF,cg,if_true,true_or,and_true,cL,ht,bB];try rfl
theorem CO{w w':bF}{el size sLen sCap m:aG}{a:Addr}{s x:bg}{zs:aY}{app:Sem (de bg)}{news:az bg}(ha:app.run P w= .ok news.toArray w)(h:sLen+m<=sCap)(JA:(storeCells (a.add (sLen*size)) news).run P w= .ok () w'):
  (lD el size (aj a) sLen sCap s x zs m app).run P w= .ok (.slice (aj a) (sLen+m) sCap) w':=by unfold lD;rw[bC h];simp only[cg,ha,bB,JA,cL]
theorem CN{w:bF}{el size sCap:aG}{s x:bg}{zs:aY}{app:Sem (de bg)}{news:az bg}(ha:app.run P w= .ok news.toArray w):
  (lD el size ao 0 sCap s x zs 0 app).run P w= .ok (.slice ao 0 sCap) w:=by unfold lD;rw[bC (bK _)];simp only[cg,ha,bB,cL]
theorem CM{w:bF}{el size sLen sCap m:aG}{base:aD Addr}{s x:bg}{zs:aY}{app:Sem (de bg)}{oS news:az bg}{inf:IB}{z:bg}(hi:P.info? el=aj inf)(hz:inf.zero=aj z)
  (h:¬sLen+m<=sCap) (h63:sLen+m<=9223372036854775807) (h48:(sLen+m)*inf.bytes<=140737488355328)
  (ho:(eU size sLen s).run P w.drew= .ok oS.toArray w.drew) (ha:app.run P w.drew= .ok news.toArray w.drew):
  (lD el size base sLen sCap s x zs m app).run P w= .ok (.slice (aj (ad w.heap.size 0)) (sLen+m) (grownCap w (sLen+m) sCap el))
   (w.drew.alloc (.cells (oS.toArray++news.toArray++fc z.cells (grownCap w (sLen+m) sCap el-(sLen+m))) el)):=by
 have ht:∀W,(typeInfo el).run P W= .ok inf W:=λW=>by simp[typeInfo,hi]
 have hzv:∀W,(zeroValue el).run P W= .ok z W:=λW=>by simp[zeroValue,typeInfo,hi,hz]
 have c1:¬(((sLen+m:aG):aA)>ar.max/\(zs=ak\/inf.bytes=0)):=by
  have:ar.max=9223372036854775807:=by decide
  rintro ⟨h,_⟩;omega
 have c2:¬(FU (sLen+m) sCap*inf.bytes>2^48):=by
  have:=growslice_fits (need:=sLen+m) (old:=sCap) (bytes:=inf.bytes) (by omega) h48;have e:2^48=281474976710656:=by decide
  omega
 have TR:(choose (.appendCap (sLen+m) sCap el)).run P w= .ok (grownCap w (sLen+m) sCap el) w.drew:=by rw[run_choose_drew];rfl
 have aml:∀n W,(askRoom n).run P W= .ok () W:=λn W=>by simp only[askRoom];split<;>simp
 have xV:∀cs,(newRow el cs).run P w.drew= .ok (ad w.heap.size 0) (w.drew.alloc (.cells cs el)):=λcs=>by simp only[newRow,newObj,cg,mJ,bB,cL];rfl
 unfold lD;rw[bL h];simp only[cg,ht,bB,c1,c2,if_false,TR,aml,ho,ha,hzv,xV,cL,mF]
structure App (P:cQ) (w:bF) (u:aG) (x:bg) (z:de bg) (sz m:aG) (news:az bg):Prop where
 h:(((∃e',P.underlying u=aj (.slice e'))\/P.underlying u=aj .string)/\(oX x).run P w= .ok m w/\(eU sz m x).run P w= .ok news.toArray w/\(eU sz m x).run P w.drew= .ok news.toArray w.drew)\/
  ((∃k,P.underlying u=aj (.int k))/\(∃k',x= .int k' (m:aA))/\news=(fc z m).toList)
 len:news.length=m*sz
 one:∀v∈news,v.oneCell'=ak
structure aan (w w':bF) (p p':Pl) (m:aG) (news:az bg):Prop where
 n:p'.n=p.n+m
 sz:p'.sz=p.sz
 nil:p'.nil=ak->p'.cap=0/\p.n=0/\m=0
 mem:p'.nil=aq->∃iM,nr w' p'.blk iM/\p'.n<=p'.cap/\p'.cap<=maxLen/\p'.off+p'.cap*p'.sz<=iM.size/\
  (∀k u,k<p.n*p.sz->w.cell? (ad p.blk (p.off+k))=aj u->iM[p'.off+k]? =aj u)/\(∀k,k<m*p.sz->iM[p'.off+p.n*p.sz+k]? =news[k]?)
 blk:p'.nil=aq->(p.nil=aq/\p'.blk=p.blk)\/p'.blk=w.heap.size
 old:∀b,b<w.heap.size->(p'.nil=aq->b≠p'.blk)->w'.heap[b]? =w.heap[b]?
 size:w.heap.size<=w'.heap.size
 os:w'.os=w.os
 tape:w'.tape=w.tape
 output:w'.output=w.output
theorem sN{w:bF}{t u ty el:aG}{inf:IB}{z:bg}{p:Pl}{x:bg}{m:aG}{news:az bg}(hu:P.underlying t=aj (.slice el))(hi:P.info? el=aj inf)(hz:inf.zero=aj z)(Og:z.cells.size=p.sz)(fT:inf.size=p.sz)
  (jd:p.nil=ak->p.n=0) (aby:p.nil=aq->∃vals,nr w p.blk vals/\p.n<=p.cap/\p.cap<=maxLen/\p.off+p.cap*p.sz<=vals.size)
  (hx:App P w u x z.cells p.sz m news) (h1:(p.n+m)*inf.bytes<=140737488355328) (h2:p.n+m<=9223372036854775807):
  ∃p' w',(gY #[t,u] ty #[lj p,x]).run P w= .ok (lj p') w'/\aan w w' p p' m news:=by
 have hmb:m*inf.bytes<=140737488355328:=c_ (b7 _ (by omega)) h1;have hzv:∀W,(zeroValue el).run P W= .ok z W:=λW=>by simp[zeroValue,typeInfo,hi,hz]
 have hml:p.n+m<=maxLen:=by simp only[maxLen];omega
 have tail:∀(base:aD Addr) (sLen sCap:aG),∃(zs:aY) (app:Sem (de bg)),(gY #[t,u] ty #[.slice base sLen sCap,x]).run P w=(lD el p.sz base sLen sCap (.slice base sLen sCap) x zs m app).run P w/\
   app.run P w= .ok news.toArray w/\app.run P w.drew= .ok news.toArray w.drew:=by
  intro base sLen sCap
  rcases hx.h with ⟨hd,hl,hf,hf2⟩|⟨⟨k,hk⟩,⟨k',hxv⟩,hn⟩
  ·have:=yu (P:=P) (w:=w) (ty:=ty) hu hi hd (base:=base) (sLen:=sLen) (sCap:=sCap) hl;rw[fT]at this;exact⟨_,_,this,hf,hf2⟩
  ·have:=BF (P:=P) (w:=w) (ty:=ty) hu hi hk (base:=base) (sLen:=sLen) (sCap:=sCap) hxv (by omega) hmb;rw[fT]at this;refine⟨_,_,this, ?_, ?_⟩
   ·rw[hn];split
    ·rename_i h0;have:fc z.cells m= #[]:=zc (by rw[size_zeroCells,Og,h0]);rw[this];rfl
    ·simp only[cg,hzv,bB,cL,sV]
   ·rw[hn];split
    ·rename_i h0;have:fc z.cells m= #[]:=zc (by rw[size_zeroCells,Og,h0]);rw[this];rfl
    ·simp only[cg,hzv,bB,cL,sV]
 have grow:∀(base:aD Addr) (sCap:aG) (oS:az bg) (zs:aY) (app:Sem (de bg)),¬p.n+m<=sCap->oS.length=p.n*p.sz->(∀k u,k<p.n*p.sz->w.cell? (ad p.blk (p.off+k))=aj u->oS[k]? =aj u)->
   (eU p.sz p.n (.slice base p.n sCap)).run P w.drew= .ok oS.toArray w.drew->app.run P w.drew= .ok news.toArray w.drew->
   ∃p' w',(lD el p.sz base p.n sCap (.slice base p.n sCap) x zs m app).run P w= .ok (lj p') w'/\aan w w' p p' m news:=by
  intro base sCap oS zs app hc Ga Nf hf ha
  have hr:=CM (P:=P) (w:=w) (size:=p.sz) (zs:=zs) (x:=x) (base:=base) hi hz hc h2 h1 hf ha
  refine⟨⟨aq,w.heap.size,0,grownCap w (p.n+m) sCap el,p.n+m,p.sz⟩,_,hr,⟨rfl,rfl,λh=>(by cases h),λ_=> ?_,λ_=> .inr rfl,λb hb _=>heap_alloc_old w.drew _ b hb,by simp,rfl,rfl,rfl⟩⟩
  have X4:=grownCap_ge w (p.n+m) sCap el
  refine⟨_,⟨_,_,heap_alloc_new w.drew _,λq _=>by simp⟩,X4,grownCap_le_maxLen w _ _ _ hml, ?_,λk u hk rE=> ?_,λk hk=> ?_⟩
  ·simp only[Array.size_append,TH,size_zeroCells,Og,Ga,hx.len,<-da,bT];exact b7 _ (by omega)
  ·rw[bT,Mx,CQ (by simpa [Ga]using hk),gQ];exact Nf k u hk rE
  ·rw[bT,Mx,Array.getElem?_append_right (by simp[Ga]),CQ (by simp[Ga,hx.len];omega),gQ];congr 1;simp[Ga]
 cases hq:p.nil with
 |true=>
  have hn:=jd hq;rw[mV hq];obtain⟨zs,app,hr,ha,ha2⟩:=tail ao 0 0;rw[hr];by_cases hm:m=0
  ·subst hm;refine⟨⟨ak,0,0,0,0,p.sz⟩,w,CN ha,⟨by simp[hn],rfl,λ_=>⟨rfl,hn,rfl⟩,λh=>(by cases h),λh=>(by cases h),λ_ _ _=>rfl,cu _,rfl,rfl,rfl⟩⟩
  ·have:=grow ao 0 [] zs app (by omega) (by simp[hn]) (λk u hk=>by rw[hn]at hk;simp at hk) (by rw[hn];exact run_firstCells_none _ _ _ _ _) ha2;rwa[hn]at this
 |false=>
  rw[eL hq];obtain⟨vals,hb,QF,Qy,nD⟩:=aby hq;obtain⟨zs,app,hr,ha,ha2⟩:=tail (aj (ad p.blk p.off)) p.n p.cap;rw[hr];have hle:p.n*p.sz<=p.cap*p.sz:=b7 _ QF;by_cases hc:p.n+m<=p.cap
  ·have ue:p.off+p.n*p.sz+news.length<=vals.size:=by have:(p.n+m)*p.sz<=p.cap*p.sz:=b7 _ hc;rw[da]at this;rw[hx.len];omega
   have JA:=mY (P:=P) w hb ue hx.one;have hrr:=CO (P:=P) (s:= .slice (aj (ad p.blk p.off)) p.n p.cap) (x:=x) (el:=el) (size:=p.sz) (zs:=zs) ha hc (by rw[Addr.nA];exact JA);refine⟨⟨aq,p.blk,p.off,p.cap,p.n+m,p.sz⟩,_,hrr,⟨rfl,rfl,λh=>(by cases h),λ_=>⟨_,hb.setRow (eO ue),hc,Qy,by rw[eO ue];exact nD,λk u hk rE=> ?_,λk hk=> ?_⟩,λ_=> .inl ⟨hq,rfl⟩,λb _ Oa=>setRow_other w _ b _ (Oa rfl),by simp[kV],rfl,rfl,rfl⟩⟩
   ·show(dV vals (p.off+p.n*p.sz) news)[p.off+k]? =aj u;rw[fY ue,bL (by omega),<-hb.cell];exact rE
   ·show(dV vals (p.off+p.n*p.sz) news)[p.off+p.n*p.sz+k]? =news[k]?;rw[fY ue,bC (by rw[hx.len];omega)];congr 1;omega
  ·have hcell:∀k,k<p.n*p.sz->w.cell? (ad p.blk (p.off+k))=vals[p.off+k]? :=λk _=>hb.cell _;let oS:=(vals.toList.drop p.off).take (p.n*p.sz);have Ga:oS.length=p.n*p.sz:=by simp only[oS,eg,hZ,dK];omega
   have Nf:∀k u,k<p.n*p.sz->w.cell? (ad p.blk (p.off+k))=aj u->oS[k]? =aj u:=λk u hk rE=>by rw[hcell k hk]at rE;simp only[oS,dR,bC hk,dJ,cO,rE]
   refine grow (aj (ad p.blk p.off)) p.cap oS zs app hc Ga Nf ?_ ha2;refine run_firstCells_some w.drew p.sz p.n _ _ _ oS Ga (λj v hj=> ?_);have jC:j<p.n*p.sz:=by rw[<-Ga];exact(aU.1 hj).1
   simp only[oS,dR,bC jC,dJ,cO]at hj;rw[Addr.nA];have:=hcell j jC;rw[hj]at this;simpa using this
end
end Go.FG

