/- An evaluator for the part of the language that this program uses, proved sound over the model: states told as values and lists; what an evaluation tells, the call does. No condition. -/
import Derived.Calls
import Derived.Orders
import Derived.Below
import Derived.Laws.AppendOwn
import Derived.Laws.Slices
import Derived.Laws.StructEq
import Derived.Laws.Tables
import Derived.Laws.MakeOwn
import Derived.Laws.IdiomStrings
import Derived.Laws.BytesArg
import Derived.Laws.NewFold
import Derived.SizedLaws
import Derived.Carry
import Derived.ProofKit
import Derived.KernelRfl
import Derived.Laws.Strings
set_option linter.unusedVariables false
set_option linter.unusedSimpArgs false
set_option maxRecDepth 100000
open Array renaming getElem?_eq_some_iff->dV,getD_eq_getD_getElem?->eP,getElem?_setIfInBounds->ot,toArray_toList->uf,getElem?_toList->cZ,ext'->sE,length_toList->dS,toList_map->Aw,getElem?_map->OG,getElem?_extract->ed,eq_empty_of_size_eq_zero->Av,append_assoc->OE,getElem?_append_left->Ei
open BitVec renaming ofInt->cf
open Bool renaming false->ak,true->ai,false_eq_true->dy,and_eq_true->aL,not_eq_true'->dt,and_assoc->nO,or_eq_false_iff->iJ,not_false->bR,not_true->a_
open ByteArray renaming size_extract->yD,size_append->dK,empty->HM,size->cq
open Go renaming IntKind->nu,Value->bk,Operand->dz,Oper->fD,World->bL,Program->c6,TypeInfo->Kl
open Go.Act renaming put->Wb,eval->H5
open Go.Builtin renaming len_->wz,max2->Eo,min2->Ep,clear_->oT,zeroCells->fO,nextslicecap->HN,firstCells->fC,lenOf->pG,append_->ix
open Go.Instr renaming loadAt->yQ,sureAddr->uS,storeAt->W0,fieldAt->WY,indexAt->WZ,sliceBound->qW,sliceBounds->na,sliceAt->qA,fill->pH,buildSlice->z7
open Go.IntKind renaming i64->ao,wrap_i64->qg
open Go.Op renaming bytesLess->b7
open Go.Oper renaming wp->OJ
open Go.Region renaming binds->mQ
open Go.Result renaming andThen_ok->bG
open Go.Sem renaming run_bind->cm,run_pure->cU,run->nv,run_ite->ni
open Go.World renaming cell?_of_block->uT,setRow->lH
open Int renaming toNat_natCast->dH,natCast_mul->W2
open List renaming mem_cons_of_mem->c8,mem_cons->cC,mem_cons_self->dr,mem_flatMap->bQ,mem_of_getElem?->aR,append_nil->dp,length_nil->jS,getElem?_toArray->ij,append_assoc->cB,getElem?_append_left->dI,getElem?_take->ea,getElem?_append_right->db,getElem?_drop->dR,length_eq_one_iff->gZ,getElem?_cons_succ->dP,getD->jR,getElem?_map->bK,getElem_mem->bC,mem_map->cX,all_eq_true->bu,range->b9,getElem?_range->vN,getElem?_eq_none->kY,getElem?_eq_some_iff->aT,mem_of_mem_drop->kZ,mem_of_mem_take->k_,getElem?_of_mem->bY,map_toArray->DE,map_cons->fE,map_nil->BU,ext_getElem?->Wg,eq_nil_of_length_eq_zero->gf,mem_append->ba,length_cons->dc,foldl_cons->DD,map_map->mn,map_congr_left->Qp,size_toArray->Wi,length_map->bU,getD_eq_getElem?_getD->cT,getElem?_set->Qo,all_cons->s7,length_take->eD,length_drop->iE,length_singleton->bA,mem_append_left->bM,mem_append_right->bN,nodup_append->eQ,length_set->cE,mem_or_eq_of_mem_set->jK,nodup_cons->la,nil_append->gD,mem_singleton->aZ,getElem?_cons_zero->sF
open Nat renaming beq->bD,blt->qB,ble->fL,le_refl->cG,le_trans->di,lt_of_lt_of_le->jw,eq_of_beq_eq_true->aU,add_zero->yT,add_assoc->l_,le_of_ble_eq_true->cO,add_mul->dq,zero_le->bI,mul_le_mul_right->b8,eq_zero_or_pos->Dq,div_lt_iff_lt_mul->yE,mod_lt->Ds,div_add_mod->J4,mul_comm->Et,zero_add->bV,lt_or_gt_of_ne->Qr,add_comm->ja,sub_zero->si,lt_irrefl->bm
open Option renaming some->ah,none->aj,map_some->jf,getD_some->yU
open Option.some renaming inj->aJ,injEq->jD
open Prod.mk renaming inj->bW,injEq->jg
open UInt8 renaming ofNat->ay
open _root_ renaming Nat->aF,Int->aw,Bool->aX,ByteArray->aq,List->aA,Option->az,Array->dv,if_pos->bz,if_neg->bH,absurd->cK,cond_true->au,cond_false->ax,decide_eq_true_eq->bf,of_decide_eq_true->cu,congrArg->lN
namespace Go.FG
inductive Ck where
 |i (k:nu)|b|s|l (e:aF)|o
inductive CV where
 |i (k:nu) (n:aw)|b (x:aX)|s (x:aq)|l (e:aF) (xs:aA (aA CV))
abbrev aQ:=aA (aA CV)
def CV.kd:CV->Ck
 | .i k _=> .i k| .b _=> .b| .s _=> .s| .l e _=> .l e
def bF:CV->aw| .i _ n=>n|_=>0
def cvB:CV->aX| .b x=>x|_=>ak
def bw:CV->aq| .s x=>x|_=>⟨#[]⟩
def jx:CV->aQ| .l _ xs=>xs|_=>[]
def ar(xs:aQ)(i j:aF):CV:=(xs.getD i []).getD j (.b ak)
inductive AV where
 |i (k:nu) (n:aw)|b (x:aX)|s (x:aq)
 |sh (e:aF) (xs:aQ)
 |nl
 |own (nm:aF)
 |vw (nm lo hi:aF)
 |bp (nm j:aF)
 |rp (nm i j:aF)
 |sp (e:aF) (xs:aQ) (i j:aF)
 |inn (nm i j:aF)
 |ip (nm i j i2 j2:aF)
 |fn (f:aF) (iX:aA (aA CV))
 |fp (xs:aA CV) (j:aF)
inductive SV where
 |v (agg:aX) (xs:aA AV)|kj (xs:aA (aX×aA AV))|un
inductive Obj where
 |box (xs:aA AV)|oa (xs:aA CV)|row (e:aF) (ex:aX) (xs:aQ)|fU (e:aF) (xs:aQ)|dead
inductive eU where
 |v (x:SV)|o (x:Obj)|j8
def zD(n:aF):aX:=bD (n%1000) 999&&qB n 900000000
abbrev St:=aF->eU
def pP(s:St)(k:aF)(c:eU):St:=λn=>bif bD n k then c else s n
def wr(s:St):aA (aF×eU)->St
 |[]=>s
 |(k,c)::r=>wr (pP s k c) r
def qu(n:aF):aF:=2*n
def c9(n:aF):aF:=2*n+1
inductive Rd (α:Type) where
 |ret (a:α)|fail|get (k:aF) (f:eU->Rd α)
def Rd.bind{α β:Type}:Rd α->(α->Rd β)->Rd β
 | .ret a,f=>f a
 | .fail,_=> .fail
 | .get k g,f=> .get k λc=>(g c).bind f
def Rd.run{α:Type}:Rd α->St->aA aF->az (α×aA aF)
 | .ret a,_,l=>ah (a,l)
 | .fail,_,_=>aj
 | .get k f,s,l=>(f (s k)).run s (k::l)
structure TI where
 agg:aX
 ks:aA Ck
 bytes:aF
inductive AA where
 |i (k:nu) (n:aw)|b (x:aX)|s (x:aq)|sh (e:aF) (xs:aQ)|nl
 |ow (e:aF) (ex:aX) (xs:aQ)|kp (xs:aQ)|fn (f:aF) (iX:aA (aA CV))
inductive fy where
 |v (agg:aX) (xs:aA AA)|pt (xs:aA AA)|fb (xs:aA CV)
structure dB where
 rs:aA fy
 outs:aA (aA AA)
structure Tab where
 ty:aF->az TI
 fo:aF->aF->az (aF×aF)
 eqs:aA aF
 SI:aF->aF->aX:=λ_ _=>ak
inductive Om where
 |nat|own (e:aF)|sh (e:aF)
structure fS extends Tab where
 call:aF->aA fy->az (aX×dB)
 om:aF->aF->Om
 mode:aF->aF->aX
 keep:aF->aA aF
 tk:aF->aX
instance:Coe fS Tab:=⟨fS.toTab⟩
structure s5 where
 cond:aX
 ws:aA (aF×eU)
def mK(n:aF):aA aF->aX
 |[]=>ak|m::r=>bD n m||mK n r
def cst:bk->SV
 | .int k n=> .v ak [.i k n]| .bool x=> .v ak [.b x]| .string x=>bif fL x.size 4611686018427387904 then .v ak [.s x]else .un
 | .slice aj 0 0=> .v ak [.nl]
 |_=> .un
def Hp(x:dz):Rd SV:=
 match x with
 | .tmp t=> .get (qu t) λ| .v x=> .ret x|_=> .ret .un
 | .const v=> .ret (cst v)
 | .func f=> .ret (.v ak [.fn f []])
 | .global _=> .fail
def jO(nm:aF):Rd Obj:= .get (c9 nm) λ| .o x=> .ret x|_=> .fail
def fresh(nm:aF):Rd Unit:= .get (c9 nm) λ| .j8=>bif fL nm 899999999 then .ret ()else .fail|_=> .fail
def rW(x:dz):Rd AV:=(Hp x).bind λ| .v ak [a]=> .ret a|_=> .fail
def CM(x:dz):Rd (nu×aw):=(rW x).bind λ| .i k n=> .ret (k,n)|_=> .fail
def dw(o:fD)(v:SV):aA (aF×eU):=match o.dst with|some d=>[(qu d, .v v)]|none=>[]
def val(o:fD)(v:SV):Rd s5:= .ret ⟨ai,dw o v⟩
def zV(o:fD)(v:AV):Rd s5:=val o (.v ak [v])
def L7(o:fD)(c:aX)(v:AV):Rd s5:= .ret ⟨c,dw o (.v ak [v])⟩
def sS(E:fS)(t:aF):Rd TI:=match E.ty t with|some i=> .ret i|none=> .fail
def pY(E:fS)(t:aF):Rd Ck:=(sS E t).bind λti=>match ti.agg,ti.ks with|false,[k]=> .ret k|_,_=> .fail
def Dl:Ck->AV
 | .i k=> .i k 0| .b=> .b ak| .s=> .s ⟨#[]⟩| .l _=> .nl| .o=> .nl
def zX:Ck->CV
 | .i k=> .i k 0| .b=> .b ak| .s=> .s ⟨#[]⟩| .l e=> .l e []| .o=> .b ak
def Lu(ks:aA Ck):aX:=ks.all λ| .o=>ak|_=>ai
def dec:Ck->CV->AV
 | .i k,x=> .i k (bF x)| .b,x=> .b (cvB x)| .s,x=> .s (bw x)| .l e,x=> .sh e (jx x)| .o,_=> .nl
def vf(xs:aQ)(i:aF):aF->aA Ck->aA AV
 |_,[]=>[]
 |j,k::ks=>dec k (ar xs i j)::vf xs i (j+1) ks
def AX(nm:aF)(xs:aQ)(i:aF):aF->aA Ck->aA AV
 |_,[]=>[]
 |j, .l _::ks=> .inn nm i j::AX nm xs i (j+1) ks
 |j,k::ks=>dec k (ar xs i j)::AX nm xs i (j+1) ks
def Zk:CV->AV
 | .i k n=> .i k n| .b x=> .b x| .s x=> .s x| .l e xs=> .sh e xs
def iH{α:Type}(xs:aA α)(j:aF)(ys:aA α):aA α:=xs.take j++ys++xs.drop (j+ys.length)
def eJ(xs:aQ)(i j:aF)(ys:aA CV):aQ:=xs.set i (iH (xs.getD i []) j ys)
def aAL(agg:aX)(xs:aA AV):SV:= .v agg xs
def eA(xs:aQ)(lo hi:aF):aQ:=(xs.drop lo).take (hi-lo)
def plain(ks:aA Ck):aX:=ks.all λ| .i _=>ai| .b=>ai| .s=>ai|_=>ak
def ckB:Ck->Ck->aX
 | .i a, .i b=>decide (a=b)| .b, .b=>ai| .s, .s=>ai| .l a, .l b=>bD a b| .o, .o=>ai|_,_=>ak
def qp:aA Ck->aA Ck->aX
 |[],[]=>ai|x::l,y::r=>ckB x y&&qp l r|_,_=>ak
def IH(ex:aX)(k:Ck)(a:AV):Rd (CV×aA (aF×eU)):=
 match k,a with
 | .i k, .i k' n=>if k=k' then .ret (.i k n,[])else .fail
 | .b, .b x=> .ret (.b x,[])
 | .s, .s x=> .ret (.s x,[])
 | .l e, .nl=> .ret (.l e [],[])
 | .l e, .sh e' xs=>bif bD e e'&& !ex then .ret (.l e xs,[])else .fail
 | .l e, .own nm=>(jO nm).bind λ
  | .row e' uA xs=>bif bD e e'&&uA then(bif ex then .ret (.l e xs,[(c9 nm, .o .dead)])else .fail)else .fail
  | .fU e' xs=>bif bD e e'&& !ex then .ret (.l e xs,[])else .fail
  |_=> .fail
 |_,_=> .fail
def zu(ex:aX):aA Ck->aA AV->Rd (aA CV×aA (aF×eU))
 |[],[]=> .ret ([],[])
 |k::ks,a::r=>(IH ex k a).bind λ(c,w)=>(zu ex ks r).bind λ(cs,ws)=> .ret (c::cs,w++ws)
 |_,_=> .fail
def aiJ:aA AV->aX
 |[]=>ai
 | .sh _ _::_=>ak
 |_::r=>aiJ r
end Go.FG

namespace Go.FG
def aeI(op:BinOp)(k:nu)(a b:aw):az (aX×AV):=
 match op with
 | .add=>ah (ai, .i k (k.wrap (a+b)))
 | .sub=>ah (ai, .i k (k.wrap (a-b)))
 | .mul=>ah (ai, .i k (k.wrap (a*b)))
 | .quo=>ah (!(b==0), .i k (k.wrap (a.tdiv b)))
 | .rem=>ah (!(b==0), .i k (a.tmod b))
 | .and=>ah (ai, .i k (k.wrap (cf k.bits a&&&cf k.bits b).toNat))
 | .or=>ah (ai, .i k (k.wrap (cf k.bits a|||BitVec.ofInt k.bits b).toNat))
 | .xor=>ah (ai, .i k (k.wrap (cf k.bits a^^^cf k.bits b).toNat))
 | .eql=>ah (ai, .b (a==b))
 | .neq=>ah (ai, .b (a !=b))
 | .lss=>ah (ai, .b (decide (a<b)))
 | .leq=>ah (ai, .b (decide (a<=b)))
 | .gtr=>ah (ai, .b (decide (a>b)))
 | .geq=>ah (ai, .b (decide (a≥b)))
 |_=>aj
def aeK(op:BinOp)(a b:aq):az (aX×AV):=
 match op with
 | .add=>ah (decide (a.size+b.size<=4611686018427387904), .s (a++b))
 | .eql=>ah (ai, .b (a.toList==b.toList))
 | .neq=>ah (ai, .b (!(a.toList==b.toList)))
 | .lss=>ah (ai, .b (b7 a.toList b.toList))
 | .leq=>ah (ai, .b (b7 a.toList b.toList||a.toList==b.toList))
 | .gtr=>ah (ai, .b (!(b7 a.toList b.toList||a.toList==b.toList)))
 | .geq=>ah (ai, .b (!(b7 a.toList b.toList)))
 |_=>aj
def Xv:aA AV->aA AV->az aX
 |[],[]=>ah ai
 | .i k a::l, .i k' b::r=>if k=k' then(match Xv l r with|some t=>ah ((a==b)&&t)|none=>aj)else aj
 | .b a::l, .b b::r=>match Xv l r with|some t=>ah ((a==b)&&t)|none=>aj
 | .s a::l, .s b::r=>match Xv l r with|some t=>ah ((a.toList==b.toList)&&t)|none=>aj
 |_,_=>aj
def Hb:AV->Ck
 | .i k _=> .i k| .b _=> .b| .s _=> .s|_=> .o
def KB(op:BinOp)(k:Ck):AV->AV->az (aX×AV)
 | .i k a, .i k' b=>if k=k' then aeI op k a b else aj
 | .s a, .s b=>aeK op a b
 | .b a, .b b=>match op,k with| .eql, .b=>ah (ai, .b (a==b))| .neq, .b=>ah (ai, .b (!(a==b)))|_,_=>aj
 |_,_=>aj
def shV(op:BinOp):AV->AV->az (aX×AV)
 | .i k a, .i _ b=>match op with
  | .shl=>ah (decide (0<=b), .i k (k.wrap (a*2^(min b.toNat k.bits))))
  | .shr=>ah (decide (0<=b), .i k (a.fdiv (2^(min b.toNat k.bits))))
  |_=>aj
 |_,_=>aj
def PA:BinOp->aX| .shl=>ai| .shr=>ai|_=>ak
def isEq:BinOp->aX| .eql=>ai| .neq=>ai|_=>ak
def UA{α:Type}:az α->Rd α|some a=> .ret a|none=> .fail
def aeJ(E:fS)(t:aF)(op:BinOp)(x y:SV):Rd (aX×AV):=
 match x,y with
 | .v ak [a], .v ak [b]=>bif PA op then UA (shV op a b)else(pY E t).bind λk=>UA (KB op k a b)
 | .v ai xs, .v ai ys=>(sS E t).bind λti=>
   bif isEq op&&mK t E.eqs&&qp (xs.map Hb) ti.ks&&qp (ys.map Hb) ti.ks&&plain ti.ks then UA (match Xv xs ys with|some r=>ah (ai,AV.b (match op with| .eql=>r|_=> !r))|none=>aj)else .fail
 |_,_=> .fail
def Nk:aA AV->aA (aF×aA AV)->aA AV
 |z,[]=>z
 |z,(j,ys)::r=>Nk (iH z j ys) r
def Hq(E:fS)(t:aF):aA (aF×dz)->Rd (aA (aF×aA AV))
 |[]=> .ret []
 |(f,x)::r=>(Hp x).bind λ
  | .v _ ys=>match E.fo t f with
   |some (o,n)=>bif bD ys.length n then(Hq E t r).bind λl=> .ret ((o,ys)::l)else .fail
   |none=> .fail
  |_=> .fail
def mF(E:fS)(a:AV):Rd (aF×aQ):=
 match a with
 | .sh e xs=> .ret (e,xs)
 | .own nm=>(jO nm).bind λ| .row e _ xs=> .ret (e,xs)| .fU e xs=> .ret (e,xs)|_=> .fail
 | .vw nm lo hi=>(jO nm).bind λ| .row e _ xs=> .ret (e,eA xs lo hi)| .fU e xs=> .ret (e,eA xs lo hi)|_=> .fail
 | .inn nm i j=>(jO nm).bind λ
  | .row e ai xs=>(sS E e).bind λti=>match ti.ks[j]? with|some (.l e2)=> .ret (e2,jx (ar xs i j))|_=> .fail
  |_=> .fail
 |_=> .fail
def afJ(E:fS)(k:Ck)(a:AV):Rd aw:=
 match k,a with
 | .s, .s x=> .ret x.size
 | .l _, .nl=> .ret 0
 | .l _, .vw nm lo hi=>(jO nm).bind λ| .row _ _ _=> .ret ((hi-lo:aF):aw)| .fU _ _=> .ret ((hi-lo:aF):aw)|_=> .fail
 | .l _,a=>(mF E a).bind λ(_,xs)=> .ret xs.length
 |_,_=> .fail
def KK(ex:aX)(ks:aA Ck):aA (aF×dz)->aQ->Rd (aQ×aA (aF×eU))
 |[],z=> .ret (z,[])
 |(i,x)::r,z=>(Hp x).bind λ
  | .v _ ys=>bif fL (i+1) z.length then(zu ex ks ys).bind λ(cs,w)=>(KK ex ks r (z.set i cs)).bind λ(z,ws)=> .ret (z,w++ws)else .fail
  |_=> .fail
def Nf:aA (aF×dz)->Rd aX
 |[]=> .ret ai
 |(_,x)::r=>(Hp x).bind λ
  | .v _ ys=>(Nf r).bind λb=> .ret (aiJ ys&&b)
  |_=> .fail
def aP(ks:aA Ck)(n:aF):aQ:=List.replicate n (ks.map zX)
def bytesOf(xs:aQ):aq:=⟨(xs.map λy=>ay (bF (y.getD 0 (.b ak))).toNat).toArray⟩
def qR(s:aq):aQ:=s.data.toList.map λb=>[.i .u8 (b.toNat:aw)]
def u8s:aA Ck->aX|[.i .u8]=>ai|_=>ak
def flat(E:fS)(ks:aA Ck):aX:=ks.all λ
 | .l e=>match E.ty e with|some ti=>plain ti.ks|none=>ak
 |_=>ai
def cy(n:aF)(bytes:aF):aX:=decide (n*bytes<=140737488355328)&&decide (n<=9223372036854775807)
def tJ(E:fS)(ti:TI)(p:AV):Rd (aA AV):=
 match p with
 | .bp nm j=>(jO nm).bind λ
  | .box xs=>bif fL (j+ti.ks.length) xs.length then .ret ((xs.drop j).take ti.ks.length)else .fail
  | .oa xs=>bif fL (j+ti.ks.length) xs.length then .ret (((xs.drop j).take ti.ks.length).map Zk)else .fail
  |_=> .fail
 | .fp xs j=>bif fL (j+ti.ks.length) xs.length then .ret (((xs.drop j).take ti.ks.length).map Zk)else .fail
 | .sp e xs i j=>(sS E e).bind λte=>bif qp ((te.ks.drop j).take ti.ks.length) ti.ks then .ret (vf xs i j ti.ks)else .fail
 | .rp nm i j=>(jO nm).bind λ
  | .row e ex xs=>(sS E e).bind λte=>bif qp ((te.ks.drop j).take ti.ks.length) ti.ks then(bif ex&&zD nm then(bif plain ti.ks then .ret (vf xs i j ti.ks)else .fail)else .ret (bif ex then AX nm xs i j ti.ks else vf xs i j ti.ks))else .fail
  | .fU e xs=>(sS E e).bind λte=>bif qp ((te.ks.drop j).take ti.ks.length) ti.ks then .ret (vf xs i j ti.ks)else .fail
  |_=> .fail
 | .ip nm i j i2 j2=>(jO nm).bind λ
  | .row e ai xs=>(sS E e).bind λte=>match te.ks[j]? with
   |some (.l e2)=>(sS E e2).bind λt2=>bif qp ((t2.ks.drop j2).take ti.ks.length) ti.ks then .ret (vf (jx (ar xs i j)) i2 j2 ti.ks)else .fail
   |_=> .fail
  |_=> .fail
 |_=> .fail
def HD(E:fS)(p:AV)(ys:aA AV):Rd (aA (aF×eU)):=
 match p with
 | .bp nm j=>(jO nm).bind λ
  | .box xs=>bif fL (j+ys.length) xs.length then .ret [(c9 nm, .o (.box (iH xs j ys)))]else .fail
  |_=> .fail
 | .rp nm i j=>(jO nm).bind λ
  | .row e ex xs=>(sS E e).bind λte=>bif plain ((te.ks.drop j).take ys.length)then(zu ak ((te.ks.drop j).take ys.length) ys).bind λ(cs,_)=> .ret [(c9 nm, .o (.row e ex (eJ xs i j cs)))]else .fail
  |_=> .fail
 | .ip nm i j i2 j2=>(jO nm).bind λ
  | .row e ai xs=>(sS E e).bind λte=>match te.ks[j]? with
   |some (.l e2)=>(sS E e2).bind λt2=>bif plain t2.ks then(zu ak ((t2.ks.drop j2).take ys.length) ys).bind λ(cs,_)=>
    .ret [(c9 nm, .o (.row e ai (eJ xs i j [.l e2 (eJ (jx (ar xs i j)) i2 j2 cs)])))]else .fail
   |_=> .fail
  |_=> .fail
 |_=> .fail
def Jy:aA AV->aX
 |[]=>ai
 | .own _::_=>ak
 |_::r=>Jy r
def zJ:aF->aA AV->az (aF×aF)
 |_,[]=>aj
 |q, .own n::r=>bif Jy r then ah (q,n)else aj
 |q,_::r=>zJ (q+1) r
def DV(e2 n2:aF)(zs:aQ):aA Ck->aA AV->az (aA CV)
 |[],[]=>ah []
 | .i k::ks, .i k' x::r=>if k=k' then(DV e2 n2 zs ks r).map (.i k x:: ·)else aj
 | .b::ks, .b x::r=>(DV e2 n2 zs ks r).map (.b x:: ·)
 | .s::ks, .s x::r=>(DV e2 n2 zs ks r).map (.s x:: ·)
 | .l e::ks, .own n::r=>bif bD e e2&&bD n n2 then(DV e2 n2 zs ks r).map (.l e2 zs:: ·)else aj
 |_,_=>aj
def HC(E:fS)(n i j:aF)(ys:aA AV):Rd (aA (aF×eU)):=
 (jO n).bind λ
 | .row e ai xs=>(sS E e).bind λte=>match zJ 0 ys with
  |some (q,n2)=>bif bD n n2 then .fail else(jO n2).bind λ
   | .row e2 ai zs=>(sS E e2).bind λt2=>bif plain t2.ks&&fL (j+ys.length) te.ks.length then(match DV e2 n2 zs ((te.ks.drop j).take ys.length) ys with
    |some cs=> .ret [(c9 n, .o (.row e ai (eJ xs i j cs))),(c9 n2, .o .dead)]
    |none=> .fail)else .fail
   |_=> .fail
  |none=> .fail
 |_=> .fail
def VN(E:fS)(p:AV)(ys:aA AV):Rd (aA (aF×eU)):=
 match p with
 | .rp n i j=>bif zD n then HC E n i j ys else HD E (.rp n i j) ys
 |p=>HD E p ys
def SC(E:fS)(t:aF)(f:aF)(p:AV):Rd AV:=
 match E.fo t f with
 |none=> .fail
 |some (o,_)=>match p with
  | .bp nm j=> .ret (.bp nm (j+o))
  | .rp nm i j=> .ret (.rp nm i (j+o))
  | .sp e xs i j=> .ret (.sp e xs i (j+o))
  | .ip nm i j i2 j2=> .ret (.ip nm i j i2 (j2+o))
  | .fp xs j=> .ret (.fp xs (j+o))
  |_=> .fail
def S_(E:fS)(e:aF)(x:AV)(n:aw):Rd (aX×AV):=
 match x with
 | .sh e' xs=>bif bD e e' then .ret (decide (0<=n)&&decide (n<(xs.length:aw)), .sp e' xs n.toNat 0)else .fail
 | .own nm=>(jO nm).bind λ
  | .row e' _ xs=>bif bD e e' then .ret (decide (0<=n)&&decide (n<(xs.length:aw)), .rp nm n.toNat 0)else .fail
  | .fU e' xs=>bif bD e e' then .ret (decide (0<=n)&&decide (n<(xs.length:aw)), .rp nm n.toNat 0)else .fail
  |_=> .fail
 | .vw nm lo hi=>(jO nm).bind λ
  | .row e' _ xs=>bif bD e e' then .ret (decide (0<=n)&&decide (n<((hi-lo:aF):aw)), .rp nm (lo+n.toNat) 0)else .fail
  | .fU e' xs=>bif bD e e' then .ret (decide (0<=n)&&decide (n<((hi-lo:aF):aw)), .rp nm (lo+n.toNat) 0)else .fail
  |_=> .fail
 | .inn nm i j=>(jO nm).bind λ
  | .row e1 ai xs=>(sS E e1).bind λte=>match te.ks[j]? with
   |some (.l e')=>bif bD e e' then .ret (decide (0<=n)&&decide (n<((jx (ar xs i j)).length:aw)), .ip nm i j n.toNat 0)else .fail
   |_=> .fail
  |_=> .fail
 |_=> .fail
def oe(x:az dz)(d:aw):Rd aw:=
 match x with
 |none=> .ret d
 |some x=>(CM x).bind λ(_,n)=> .ret n
def g7(l h n:aw):aX:=decide (0<=l)&&decide (l<=h)&&decide (h<=n)
def U7(e:aF)(x:AV)(lo hi:az dz):Rd (aX×AV):=
 match x with
 | .sh e' xs=>bif bD e e' then(oe lo 0).bind λl=>(oe hi xs.length).bind λh=> .ret (g7 l h xs.length, .sh e' (eA xs l.toNat h.toNat))else .fail
 | .own nm=>(jO nm).bind λ
  | .row e' _ xs=>bif bD e e' then(oe lo 0).bind λl=>(oe hi xs.length).bind λh=> .ret (g7 l h xs.length, .vw nm l.toNat h.toNat)else .fail
  | .fU e' xs=>bif bD e e' then(oe lo 0).bind λl=>(oe hi xs.length).bind λh=> .ret (g7 l h xs.length, .vw nm l.toNat h.toNat)else .fail
  |_=> .fail
 | .vw nm a b=>(jO nm).bind λ
  | .row e' _ _=>bif bD e e' then(oe lo 0).bind λl=>(oe hi ((b-a:aF):aw)).bind λh=> .ret (g7 l h ((b-a:aF):aw), .vw nm (a+l.toNat) (a+h.toNat))else .fail
  | .fU e' _=>bif bD e e' then(oe lo 0).bind λl=>(oe hi ((b-a:aF):aw)).bind λh=> .ret (g7 l h ((b-a:aF):aw), .vw nm (a+l.toNat) (a+h.toNat))else .fail
  |_=> .fail
 | .nl=>(oe lo 0).bind λl=>(oe hi 0).bind λh=> .ret (g7 l h 0, .nl)
 |_=> .fail
def LR(E:fS)(k:Ck)(x:AV)(lo hi:az dz):Rd (aX×AV):=
 match k,x with
 | .s, .s a=>(oe lo 0).bind λl=>(oe hi a.size).bind λh=> .ret (g7 l h a.size, .s (a.extract l.toNat h.toNat))
 | .l e,x=>(sS E e).bind λ_=>U7 e x lo hi
 |_,_=> .fail
def wW(e:aF)(s:AV):Rd (aX×aQ×aA aF):=
 match s with
 | .nl=> .ret (ai,[],[])
 | .own nm=>(jO nm).bind λ
  | .row e' ex xs=>bif bD e e' then .ret (ex,xs,[nm])else .fail
  |_=> .fail
 | .vw nm lo hi=>(jO nm).bind λ
  | .row e' ex xs=>bif bD e e' then .ret (ex,eA xs lo hi,[nm])else .fail
  |_=> .fail
 |_=> .fail
def TW(E:fS)(tL e:aF)(ks:aA Ck)(b:aA aF)(x:AV):Rd (aX×aQ×aA (aF×eU)):=
 match x with
 | .s a=>bif u8s ks then .ret (ai,qR a,[])else .fail
 | .nl=> .ret (ai,[],[])
 | .sh e' xs=>bif bD e e' then .ret (plain ks,xs,[])else .fail
 | .own nm=>(jO nm).bind λ
  | .row e' ex xs=>bif bD e e' then
    (bif plain ks|| !ex then .ret (plain ks,xs,[])
    else bif mK nm b then .fail
    else bif E.tk tL then .ret (ak,xs,[(c9 nm, .o (.fU e xs))])else .ret (ai,xs,[(c9 nm, .o .dead)]))else .fail
  | .fU e' xs=>bif bD e e' then .ret (plain ks,xs,[])else .fail
  |_=> .fail
 | .vw nm lo hi=>(jO nm).bind λ
  | .row e' ex xs=>bif bD e e' then
    (bif plain ks|| !ex then .ret (plain ks,eA xs lo hi,[])
    else bif mK nm b then .fail
    else bif E.tk tL then .ret (ak,eA xs lo hi,[(c9 nm, .o (.fU e xs))])else .fail)else .fail
  | .fU e' xs=>bif bD e e' then .ret (plain ks,eA xs lo hi,[])else .fail
  |_=> .fail
 | .inn nm i j=>bif plain ks then(mF E (.inn nm i j)).bind λ(e',xs)=>bif bD e e' then .ret (ai,xs,[])else .fail else .fail
 |_=> .fail
def ox(b:aA aF):aA (aF×eU):=b.map λn=>(c9 n, .o .dead)
def GJ(E:fS)(tL:aF)(t:aF)(s x:AV):Rd (aX×AV×aA (aF×eU)):=
 (sS E t).bind λti=>match ti.agg,ti.ks with
 |false,[.l e]=>(sS E e).bind λte=>bif Lu te.ks then(wW e s).bind λ(Dt,xs,b)=>
  (TW E tL e te.ks b x).bind λ(AY,ys,w2)=>(fresh tL).bind λ_=>
  .ret (cy (xs.length+ys.length) te.bytes, .own tL,ox b++(w2++[(c9 tL, .o (.row e (Dt&&AY) (xs++ys)))]))else .fail
 |_,_=> .fail
def V9(E:fS)(tL:aF)(t:aF)(s:AV)(n:aw):Rd (aX×AV×aA (aF×eU)):=
 (sS E t).bind λti=>match ti.agg,ti.ks with
 |false,[.l e]=>(sS E e).bind λte=>bif Lu te.ks&&flat E te.ks then(wW e s).bind λ(ex,xs,b)=>(fresh tL).bind λ_=>
  .ret (decide (0<=n)&&cy (xs.length+n.toNat) te.bytes&&decide (n<=9223372036854775807), .own tL,ox b++[(c9 tL, .o (.row e ex (xs++aP te.ks n.toNat)))])else .fail
 |_,_=> .fail
def Sr(E:fS)(e:aF)(x:AV):Rd (aA (aF×eU)):=
 match x with
 | .own nm=>(jO nm).bind λ
  | .row e' ex xs=>(sS E e).bind λte=>bif bD e e'&&plain te.ks then .ret [(c9 nm, .o (.row e' ex (aP te.ks xs.length)))]else .fail
  |_=> .fail
 | .vw nm lo hi=>(jO nm).bind λ
  | .row e' ex xs=>(sS E e).bind λte=>bif bD e e'&&plain te.ks then .ret [(c9 nm, .o (.row e' ex (xs.take lo++aP te.ks (hi-lo)++xs.drop hi)))]else .fail
  |_=> .fail
 | .nl=> .ret []
 |_=> .fail
def iu(mx:aX)(a b:aw):aw:=bif mx then(if b>a then b else a)else(if b<a then b else a)
def xN(mx:aX):aA dz->nu->aw->Rd AV
 |[],k,a=> .ret (.i k a)
 |x::r,k,a=>(CM x).bind λ(_,b)=>xN mx r k (iu mx a b)
end Go.FG

namespace Go.FG
inductive Src where
 |own (nm e:aF) (ex:aX)|no
structure Pk where
 a:AA
 src:Src
 rd:aA aF
def Ao(E:fS)(mt:aX)(a:AV):Rd Pk:=
 match a with
 | .i k n=> .ret ⟨.i k n, .no,[]⟩| .b x=> .ret ⟨.b x, .no,[]⟩| .s x=> .ret ⟨.s x, .no,[]⟩
 | .sh e xs=> .ret ⟨.sh e xs, .no,[]⟩
 | .nl=> .ret ⟨.nl, .no,[]⟩
 | .fn f iX=> .ret ⟨.fn f iX, .no,[]⟩
 | .own nm=>(jO nm).bind λ
  | .row e ex xs=>bif mt then .ret ⟨.ow e ex xs, .own nm e ex,[]⟩else .ret ⟨.sh e xs, .no,[nm]⟩
  | .fU e xs=> .ret ⟨.sh e xs, .no,[]⟩
  |_=> .fail
 | .vw nm lo hi=>bif mt then .fail else(jO nm).bind λ
  | .row e _ xs=> .ret ⟨.sh e (eA xs lo hi), .no,[nm]⟩
  | .fU e xs=> .ret ⟨.sh e (eA xs lo hi), .no,[]⟩
  |_=> .fail
 | .inn nm i j=>(jO nm).bind λ
  | .row e ai xs=>(sS E e).bind λte=>match te.ks[j]? with
   |some (.l e2)=>(sS E e2).bind λt2=>bif plain t2.ks&& !mt then .ret ⟨.sh e2 (jx (ar xs i j)), .no,[nm]⟩else .fail
   |_=> .fail
  |_=> .fail
 |_=> .fail
def CU(E:fS)(mt:aX):aA AV->Rd (aA Pk)
 |[]=> .ret []
 |a::r=>(Ao E mt a).bind λp=>(CU E mt r).bind λl=> .ret (p::l)
structure Pa where
 arg:fy
 box:az (aF×aA AV)
 cs:aA Pk
def aeE(E:fS)(mt:aX)(x:SV):Rd Pa:=
 match x with
 | .v ak [.bp nm 0]=>bif mt then(jO nm).bind λ
   | .box xs=>(CU E ai xs).bind λl=> .ret ⟨.pt (l.map (·.a)),ah (nm,xs),l⟩
   |_=> .fail
  else .fail
 | .v agg xs=>(CU E mt xs).bind λl=> .ret ⟨.v agg (l.map (·.a)),aj,l⟩
 |_=> .fail
def Zg:Ck->AV->AV
 | .l e, .nl=> .sh e []
 |_,a=>a
def CI:aA Ck->aA AV->aA AV
 |k::ks,a::r=>Zg k a::CI ks r
 |_,r=>r
def nlz(E:Tab)(t:az aF)(v:SV):SV:=
 match t with
 |none=>v
 |some t=>match E.ty t,v with
  |some ti, .v g xs=> .v g (CI ti.ks xs)
  |_,v=>v
def Sd(E:fS)(f:aF)(QH:az (aA aF)):aF->aA dz->Rd (aA Pa)
 |_,[]=> .ret []
 |p,x::r=>(Hp x).bind λv=>(aeE E (E.mode f p) (bif E.mode f p then v else nlz E (match QH with|some l=>l[p]? |none=>aj) v)).bind λa=>bif fL a.cs.length 100 then(Sd E f QH (p+1) r).bind λl=> .ret (a::l)else .fail
def Pk.uG(p:Pk):aA aF:=match p.src with| .own nm _ _=>[nm]| .no=>[]
def Pa.uG(p:Pa):aA aF:=(match p.box with|some (nm,_)=>[nm]|none=>[])++p.cs.flatMap (·.uG)
def Pa.nL(p:Pa):aA aF:=p.cs.flatMap (·.rd)
def tM:aA aF->aX
 |[]=>ai|n::r=> !mK n r&&tM r
def rK:aA aF->aA aF->aX
 |[],_=>ai|n::r,l=> !mK n l&&rK r l
def rM(ok:aX)(nm:aF)(a:AA):Rd (AV×aA (aF×eU)):=
 match a with
 | .i k n=> .ret (.i k n,[])| .b x=> .ret (.b x,[])| .s x=> .ret (.s x,[])| .nl=> .ret (.nl,[])
 | .sh e xs=>bif ok then .ret (.sh e xs,[])else .fail
 | .ow e ex xs=>bif ex||ok then(fresh nm).bind λ_=> .ret (.own nm,[(c9 nm, .o (.row e ex xs))])else .fail
 |_=> .fail
def Bi(ok:aX):aF->aA AA->Rd (aA AV×aA (aF×eU))
 |_,[]=> .ret ([],[])
 |nm,a::r=>(rM ok nm a).bind λ(v,w)=>(Bi ok (nm+1) r).bind λ(vs,ws)=> .ret (v::vs,w++ws)
def GM(ok:aX)(nm:aF)(a:fy):Rd ((aX×aA AV)×aA (aF×eU)):=
 match a with
 | .v agg xs=>(Bi ok nm xs).bind λ(vs,ws)=> .ret ((agg,vs),ws)
 | .pt xs=>(Bi ok nm xs).bind λ(vs,ws)=>(fresh (nm+30)).bind λ_=> .ret ((ak,[.bp (nm+30) 0]),ws++[(c9 (nm+30), .o (.box vs))])
 | .fb _=> .fail
def B6(ok:aX):aF->aA fy->Rd (aA (aX×aA AV)×aA (aF×eU))
 |_,[]=> .ret ([],[])
 |nm,a::r=>(GM ok nm a).bind λ(v,w)=>(B6 ok (nm+40) r).bind λ(vs,ws)=> .ret (v::vs,w++ws)
def Fm(ok:aX)(p:Pk)(a:AA):Rd (aA (aF×eU)):=
 match p.src,a with
 | .no,_=> .ret []
 | .own nm e ex, .kp xs=>bif ex||ok then .ret [(c9 nm, .o (.row e ex xs))]else .fail
 | .own nm _ _, .nl=> .ret [(c9 nm, .o .dead)]
 |_,_=> .fail
def LD(ok:aX):aA Pk->aA AA->Rd (aA (aF×eU))
 |[],_=> .ret []
 |p::r,l=>(Fm ok p (l.headD .nl)).bind λw=>(LD ok r l.tail).bind λws=> .ret (w++ws)
def CP(ok:aX)(nm:aF)(p:Pk)(v:AV)(a:AA):Rd (AV×aA (aF×eU)):=
 match p.src,a with
 | .own n e ex, .kp xs=>bif ex||ok then .ret (v,[(c9 n, .o (.row e ex xs))])else .fail
 | .own n _ _,a=>(rM ok nm a).bind λ(v,w)=> .ret (v,(c9 n, .o .dead)::w)
 | .no,a=>rM ok nm a
def rX(ok:aX):aF->aA Pk->aA AV->aA AA->Rd (aA AV×aA (aF×eU))
 |_,[],[],[]=> .ret ([],[])
 |nm,p::ps,v::vs,a::as=>(CP ok nm p v a).bind λ(v,w)=>(rX ok (nm+1) ps vs as).bind λ(vs,ws)=> .ret (v::vs,w++ws)
 |_,_,_,_=> .fail
def UB(ok:aX)(nm:aF)(p:Pa)(l:aA AA):Rd (aA (aF×eU)):=
 match p.box with
 |some (n,vs)=>(rX ok nm p.cs vs l).bind λ(vs,ws)=> .ret (ws++[(c9 n, .o (.box vs))])
 |none=>LD ok p.cs l
def LC(ok:aX):aF->aA Pa->aA (aA AA)->Rd (aA (aF×eU))
 |_,[],_=> .ret []
 |nm,p::r,l=>(UB ok nm p (l.headD [])).bind λw=>(LC ok (nm+40) r l.tail).bind λws=> .ret (w++ws)
def sC:aA (aX×aA AV)->SV
 |[(agg,xs)]=> .v agg xs
 |l=> .kj l
def nB:fy->aF| .v _ xs=>xs.length| .pt xs=>xs.length| .fb _=>0
def SM:aA aF->Rd (aA (aF×eU))
 |[]=> .ret []
 |n::r=>(jO n).bind λ
  | .row e _ xs=>(SM r).bind λws=> .ret ((c9 n, .o (.fU e xs))::ws)
  |_=> .fail
def GP(E:fS)(nm:aF)(o:fD)(f:aF)(args:aA dz)(QH:az (aA aF))(iX:aA (aA CV)):Rd s5:=
 (Sd E f QH 0 args).bind λps=>
  bif tM (ps.flatMap (·.uG))&&rK (ps.flatMap (·.uG)) (ps.flatMap (·.nL))then
   match E.call f (ps.map (·.arg)++iX.map fy.fb)with
   |some (c,r)=>bif fL ps.length 400&&(r.rs.all λa=>fL (nB a) 30)&&(r.outs.all λa=>fL a.length 100)then(SM (bif E.tk nm then ps.flatMap (·.nL)else [])).bind λw0=>
    (LC (E.tk nm||(ps.flatMap (·.nL)).isEmpty) (nm+400) ps r.outs).bind λw1=>(B6 (E.tk nm||(ps.flatMap (·.nL)).isEmpty) (nm+1) r.rs).bind λ(vs,w2)=>
    bif tM ((w1++w2).map (·.1))then .ret ⟨c,w0++(w1++w2)++dw o (sC vs)⟩else .fail else .fail
   |none=> .fail
  else .fail
def Rd.or{α:Type}:Rd α->Rd α->Rd α
 | .ret a,_=> .ret a
 | .fail,y=>y
 | .get k f,y=> .get k λc=>(f c).or y
def M5(E:fS)(nm:aF)(o:fD)(f:aF)(args:aA dz)(QH:aA aF)(iX:aA (aA CV)):Rd s5:=
 (GP E nm o f args aj iX).or (GP E nm o f args (ah QH) iX)
def CA(E:fS)(o:fD)(f n i j:aF)(y:dz):Rd s5:=
 (CM y).bind λ(k,m)=>(jO n).bind λ
  | .row e ai xs=>(sS E e).bind λte=>match te.ks[j]? with
   |some (.l e2)=>match E.call f [.v ak [.ow e2 ai (jx (ar xs i j))], .v ak [.i k m]]with
    |some (c,r)=>match r.rs,r.outs with
     |[.v ak [.i k2 m2]],[[.kp ys]]=> .ret ⟨c,(c9 n, .o (.row e ai (eJ xs i j [.l e2 ys])))::dw o (.v ak [.i k2 m2])⟩
     |_,_=> .fail
    |none=> .fail
   |_=> .fail
  |_=> .fail
def Sl:aA dz->Rd (aA (aA CV)×aA (aF×eU))
 |[]=> .ret ([],[])
 |x::r=>(rW x).bind λ
  | .bp nm 0=>(jO nm).bind λ
   | .box xs=>(aeL xs).bind λcs=>(Sl r).bind λ(l,ws)=> .ret (cs::l,(c9 nm, .o (.oa cs))::ws)
   | .oa cs=>(Sl r).bind λ(l,ws)=> .ret (cs::l,ws)
   |_=> .fail
  |_=> .fail
where aeL:aA AV->Rd (aA CV)
 |[]=> .ret []
 |a::r=>(aeL r).bind λl=>match a with
  | .i k n=> .ret (.i k n::l)| .b x=> .ret (.b x::l)| .s x=> .ret (.s x::l)
  | .sh e xs=> .ret (.l e xs::l)
  |_=> .fail
def mg(E:fS)(nm:aF)(o:fD):Rd s5:=
 match o.op with
 | .move x| .assign x=>(Hp x).bind λv=>val o v
 | .nilCheck x=>(rW x).bind λp=>match p with
  | .bp nm j=>val o (.v ak [.bp nm j])
  | .rp nm i j=>val o (.v ak [.rp nm i j])
  |_=> .fail
 | .pick c a b=>(rW c).bind λc=>(Hp a).bind λa=>(Hp b).bind λb=>
  match c,a,b with
  | .b c, .v ak [.b p], .v ak [.b q]=>zV o (.b (bif c then p else q))
  | .b c, .kj [],b=> .ret ⟨!c,dw o b⟩
  | .b c,a, .kj []=> .ret ⟨c,dw o a⟩
  |_,_,_=> .fail
 | .alloc t=>(sS E t).bind λti=>bif Lu ti.ks then(fresh nm).bind λ_=> .ret ⟨ai,(c9 nm, .o (.box (ti.ks.map Dl)))::dw o (.v ak [.bp nm 0])⟩else .fail
 | .box t x=>(Hp x).bind λ
  | .v _ xs=>(fresh nm).bind λ_=> .ret ⟨ai,(c9 nm, .o (.box xs))::dw o (.v ak [.bp nm 0])⟩
  |_=> .fail
 | .build t ps=>(sS E t).bind λti=>bif Lu ti.ks&&ti.agg then(Hq E t ps.toList).bind λl=>val o (.v ai (Nk (ti.ks.map Dl) l))else .fail
 | .buildSlice t n ps=>(sS E t).bind λti=>match ti.agg,ti.ks with
  |false,[.l e]=>(sS E e).bind λte=>bif Lu te.ks then(Nf ps.toList).bind λex=>(KK (ex&&flat E te.ks) te.ks ps.toList (aP te.ks n)).bind λ(xs,w)=>(fresh nm).bind λ_=>
   .ret ⟨fL (n*te.ks.length) 16777216&&tM (w.map (·.1)),w++(c9 nm, .o (.row e (ex&&flat E te.ks) xs))::dw o (.v ak [.own nm])⟩else .fail
  |_,_=> .fail
 | .load t p=>(sS E t).bind λti=>(rW p).bind λp=>(tJ E ti p).bind λxs=>val o (.v ti.agg xs)
 | .store t p x=>(sS E t).bind λti=>(rW p).bind λp=>(Hp x).bind λ
  | .v _ ys=>bif bD ys.length ti.ks.length then(VN E p ys).bind λw=> .ret ⟨ai,w++dw o .un⟩else .fail
  |_=> .fail
 | .fieldAddr t p f=>(rW p).bind λp=>(SC E t f p).bind λq=>zV o q
 | .field t x f=>(Hp x).bind λ
  | .v ai xs=>match E.fo t f with
   |some (j,n)=>bif E.SI t f&&bD n 1 then(match xs.drop j with|a::_=>zV o a|[]=> .fail)else .fail
   |none=> .fail
  |_=> .fail
 | .indexAddr t x i=>(pY E t).bind λ
  | .l e=>(rW x).bind λx=>(CM i).bind λ(_,n)=>(S_ E e x n).bind λ(c,q)=>L7 o c q
  |_=> .fail
 | .index t x i=>(pY E t).bind λk=>(rW x).bind λx=>(CM i).bind λ(_,n)=>match k,x with
  | .s, .s a=>L7 o (decide (0<=n)&&decide (n<(a.size:aw))) (.i .u8 ((a.data.getD n.toNat 0).toNat:aw))
  |_,_=> .fail
 | .binOp op t x y _=>(Hp x).bind λx=>(Hp y).bind λy=>(aeJ E t op x y).bind λ(c,v)=>L7 o c v
 | .unOp op _ x=>(rW x).bind λx=>match op,x with
  | .not, .b x=>zV o (.b (!x))
  | .neg, .i k n=>zV o (.i k (k.wrap (0-n)))
  |_,_=> .fail
 | .convert src dst x=>(pY E src).bind λks=>(pY E dst).bind λkd=>(rW x).bind λx=>match kd,ks,x with
  | .i k, .i _, .i _ n=>zV o (.i k (k.wrap n))
  | .s, .s, .s a=>zV o (.s a)
  | .s, .l e', .nl=>(sS E e').bind λte=>bif u8s te.ks&& !te.agg then zV o (.s ⟨#[]⟩)else .fail
  | .s, .l e',a=>(mF E a).bind λ(e,xs)=>(sS E e).bind λte=>bif bD e e'&&u8s te.ks&& !te.agg then L7 o (decide (xs.length<=4611686018427387904)) (.s (bytesOf xs))else .fail
  |_,_,_=> .fail
 | .makeSlice t l c=>(CM l).bind λ(_,n)=>(CM c).bind λ(_,m)=>(sS E t).bind λti=>match ti.agg,ti.ks with
  |false,[.l e]=>(sS E e).bind λte=>bif Lu te.ks&&flat E te.ks then(fresh (bif plain te.ks then nm else nm+999)).bind λ_=> .ret ⟨decide (0<=n)&&decide (n=m)&&cy n.toNat te.bytes,(c9 (bif plain te.ks then nm else nm+999), .o (.row e ai (aP te.ks n.toNat)))::dw o (.v ak [.own (bif plain te.ks then nm else nm+999)])⟩else .fail
  |_,_=> .fail
 | .slice t x lo hi mx=>match mx with
  |some _=> .fail
  |none=>(pY E t).bind λk=>(rW x).bind λx=>(LR E k x lo hi).bind λ(c,v)=>L7 o c v
 | .extract x i=>(Hp x).bind λ
  | .kj l=>match l[i]? with|some (agg,xs)=>val o (.v agg xs)|none=> .fail
  |_=> .fail
 | .makeFunc (.func f) first iX=>bif first.isEmpty then(Sl iX.toList).bind λ(l,ws)=> .ret ⟨ai,ws++dw o (.v ak [.fn f l])⟩else .fail
 | .call c=>match c.callee with
  | .builtin .len=>match c.args.toList,c.argTypes.toList with
   |[x],[t]=>(pY E t).bind λk=>(rW x).bind λx=>(afJ E k x).bind λn=>zV o (.i .i64 n)
   |_,_=> .fail
  | .builtin .cap=>match c.args.toList,c.argTypes.toList with
   |[x],[t]=>(pY E t).bind λ| .l _=>((rW x).bind λ| .nl=>zV o (.i .i64 0)|_=> .fail)|_=> .fail
   |_,_=> .fail
  | .builtin .min=>match c.args.toList with
   |x::r=>(CM x).bind λ(k,n)=>(xN ak r k n).bind λv=>zV o v
   |_=> .fail
  | .builtin .max=>match c.args.toList with
   |x::r=>(CM x).bind λ(k,n)=>(xN ai r k n).bind λv=>zV o v
   |_=> .fail
  | .builtin .clear=>match c.args.toList with
   |[x]=>match c.argTypes.toList with
    |[t]=>(pY E t).bind λ| .l e=>((rW x).bind λx=>(Sr E e x).bind λw=> .ret ⟨ai,w++dw o (.kj [])⟩)|_=> .fail
    |_=> .fail
   |_=> .fail
  | .builtin .append=>match c.args.toList,c.argTypes.toList with
   |[s,x],[t,u]=>(pY E u).bind λku=>(rW s).bind λs=>(rW x).bind λx=>match ku,x with
    | .i _, .i _ n=>(V9 E nm t s n).bind λ(b,v,w)=> .ret ⟨b,w++dw o (.v ak [v])⟩
    | .l _,x=>(GJ E nm t s x).bind λ(b,v,w)=> .ret ⟨b,w++dw o (.v ak [v])⟩
    | .s,x=>(GJ E nm t s x).bind λ(b,v,w)=> .ret ⟨b,w++dw o (.v ak [v])⟩
    |_,_=> .fail
   |_,_=> .fail
  | .value f=>(rW f).bind λ
   | .fn f iX=>match c.args.toList,iX with
    |[x,y],[]=>(Hp x).bind λ
     | .v ak [.inn n i j]=>bif E.mode f 0 then CA E o f n i j y else M5 E nm o f c.args.toList c.argTypes.toList iX
     |_=>M5 E nm o f c.args.toList c.argTypes.toList iX
    |_,_=>M5 E nm o f c.args.toList c.argTypes.toList iX
   |_=> .fail
  |_=> .fail
 |_=> .fail
inductive Ex where
 |normal|exit (id:aF)|ret
structure Lg where
 rs:aA aF
 ws:aA aF
def Nq{R:Type}(a:AV)(f:AV->R):R:=
 match a with
 | .i k n=>f (.i k n)| .b x=>f (.b x)| .s x=>f (.s x)| .sh e xs=>f (.sh e xs)| .nl=>f .nl| .own n=>f (.own n)| .vw n lo hi=>f (.vw n lo hi)
 | .bp n j=>f (.bp n j)| .rp n i j=>f (.rp n i j)| .sp e xs i j=>f (.sp e xs i j)| .inn n i j=>f (.inn n i j)| .ip n i j i2 j2=>f (.ip n i j i2 j2)| .fn g iX=>f (.fn g iX)| .fp xs j=>f (.fp xs j)
def GW{R:Type}(a:aX)(f:aX->R):R:=match a with|true=>f ai|false=>f ak
def pw{R:Type}:aA AV->(aA AV->R)->R
 |[],f=>f []|a::r,f=>Nq a λa=>pw r λr=>f (a::r)
def GY{R:Type}:aA (aX×aA AV)->(aA (aX×aA AV)->R)->R
 |[],f=>f []|(g,xs)::r,f=>GW g λg=>pw xs λxs=>GY r λr=>f ((g,xs)::r)
def GX{R:Type}(v:SV)(f:SV->R):R:=
 match v with
 | .v g xs=>GW g λg=>pw xs λxs=>f (.v g xs)| .kj l=>GY l λl=>f (.kj l)| .un=>f .un
def KU{R:Type}(o:Obj)(f:Obj->R):R:=
 match o with
 | .box xs=>pw xs λxs=>f (.box xs)| .oa cs=>f (.oa cs)| .row e ex xs=>GW ex λex=>f (.row e ex xs)| .fU e xs=>f (.fU e xs)| .dead=>f .dead
def KT{R:Type}(c:eU)(f:eU->R):R:=
 match c with
 | .v x=>GX x λx=>f (.v x)| .o x=>KU x λx=>f (.o x)| .j8=>f .j8
def Cq{R:Type}:aA (aF×eU)->(aA (aF×eU)->R)->R
 |[],f=>f []|(k,c)::r,f=>KT c λc=>Cq r λr=>f ((k,c)::r)
theorem KS{R:Type}(a:AV)(f:AV->R):Nq a f=f a:=by cases a<;>rfl
theorem zw{R:Type}(a:aX)(f:aX->R):GW a f=f a:=by cases a<;>rfl
theorem nV{R:Type}:∀(l:aA AV) (f:aA AV->R),pw l f=f l
 |[],_=>rfl
 |a::r,f=>by simp only[pw,KS,nV r]
theorem EY{R:Type}:∀(l:aA (aX×aA AV)) (f:aA (aX×aA AV)->R),GY l f=f l
 |[],_=>rfl
 |(g,xs)::r,f=>by simp only[GY,zw,nV,EY r]
theorem KV{R:Type}(v:SV)(f:SV->R):GX v f=f v:=by cases v<;>simp only[GX,zw,nV,EY]
theorem Pc{R:Type}(v:Obj)(f:Obj->R):KU v f=f v:=by cases v<;>simp only[KU,zw,nV]
theorem Pb{R:Type}(v:eU)(f:eU->R):KT v f=f v:=by cases v<;>simp only[KT,KV,Pc]
theorem EZ{R:Type}:∀(l:aA (aF×eU)) (f:aA (aF×eU)->R),Cq l f=f l
 |[],_=>rfl
 |(k,c)::r,f=>by simp only[Cq,Pb,EZ r]
def ops{R:Type}(E:fS)(all:dv fD)(oi:aF):aF->aA fD->St->aA Lg->(St->aA Lg->az R)->az R
 |_,[],σ,lg,K=>K σ lg
 |i,o::rest,σ,lg,K=>match o.guard with
  |none=>match (mg E ((oi+1)*1000000+i*1000) o).run σ []with
   |some (e,l)=>bif e.cond then Cq e.ws (λws=>ops E all oi (i+1) rest (wr σ ws) (⟨l,ws.map (·.1)⟩::lg) K)else aj
   |none=>aj
  |some (g,want)=>match (all.getD g default).dst with
   |none=>aj
   |some d=>match σ (qu d)with
    | .v (.v ak [.b x])=>
     let perform:=λy=>match (mg E ((oi+1)*1000000+i*1000) o).run (pP σ (qu d) (.v (.v ak [.b y]))) []with
      |some (e,l)=>bif e.cond then Cq e.ws (λws=>ops E all oi (i+1) rest (wr (pP σ (qu d) (.v (.v ak [.b y]))) ws) (⟨qu d::l,ws.map (·.1)⟩::lg) K)else aj
      |none=>aj
     let skip:=λy=>ops E all oi (i+1) rest (wr (pP σ (qu d) (.v (.v ak [.b y]))) (dw o (.kj []))) (⟨[qu d],(dw o (.kj [])).map (·.1)⟩::lg) K
     bif x then(bif want then perform ai else skip ai)else(bif want then skip ak else perform ak)
    | .v (.kj [])=>ops E all oi (i+1) rest (wr σ (dw o (.kj []))) (⟨[qu d],(dw o (.kj [])).map (·.1)⟩::lg) K
    |_=>aj
def ddA(acc:aA aF):aA aF->aA aF
 |[]=>acc|n::r=>bif mK n acc then ddA acc r else ddA (n::acc) r
def mX{R:Type}:aA aF->(aA aF->R)->R
 |[],f=>f []|n::r,f=>mX r λr=>f (n::r)
def Br{R:Type}:aA (aA aF)->(aA (aA aF)->R)->R
 |[],f=>f []|n::r,f=>mX n λn=>Br r λr=>f (n::r)
theorem oW{R:Type}:∀(l:aA aF) (f:aA aF->R),mX l f=f l
 |[],_=>rfl
 |n::r,f=>by simp only[mX,oW r]
theorem Cp{R:Type}:∀(l:aA (aA aF)) (f:aA (aA aF)->R),Br l f=f l
 |[],_=>rfl
 |n::r,f=>by simp only[Br,oW,Cp r]
theorem GQ:∀(l acc:aA aF) (x:aF),x∈ddA acc l->x∈acc\/x∈l
 |[],_,_,h=> .inl h
 |n::r,acc,x,h=>by
  unfold ddA at h;cases hb:mK n acc with
  |true=>
   rw[hb]at h;rcases GQ r acc x h with h|h
   ·exact .inl h
   ·exact .inr (c8 _ h)
  |false=>
   rw[hb]at h;rcases GQ r (n::acc) x h with h|h
   ·rcases cC.1 h with rfl|h
    ·exact .inr dr
    ·exact .inl h
   ·exact .inr (c8 _ h)
def GI:aA (aA aF)->aA fD->aA (aA aF)
 |acc,[]=>acc
 |acc,o::r=>mX (ddA [] (o.after.toList.flatMap λe=>bif mQ .any e then e.on::acc.getD e.on []else [])) λx=>GI (acc++[x]) r
def JD:aF->aA fD->aX
 |_,[]=>ai
 |i,o::r=>(o.after.toList.all λe=> !Region.binds .any e||Nat.blt e.on i)&&JD (i+1) r
def Cb(a b:Lg):aX:= !(rK a.ws b.ws&&rK a.ws b.rs&&rK b.ws a.rs)
def Bl(an:aA aF)(j:aF)(a:Lg):aF->aA Lg->aX
 |_,[]=>ai
 |i,b::r=>(mK i an|| !Cb a b)&&Bl an j a (i+1) r
def calm:aF->aA (aA aF)->aA Lg->aA Lg->aX
 |_,_,_,[]=>ai
 |j,an,done,a::r=>Bl (an.getD j []) j a 0 done&&calm (j+1) an (done++[a]) r
def Bq{R:Type}:aA Lg->(aA Lg->R)->R
 |[],f=>f []|a::r,f=>mX a.rs λrs=>mX a.ws λws=>Bq r λr=>f (⟨rs,ws⟩::r)
theorem Co{R:Type}:∀(l:aA Lg) (f:aA Lg->R),Bq l f=f l
 |[],_=>rfl
 |n::r,f=>by simp only[Bq,oW,Co r]
def M6(an:aA (aA aF))(l:aA Lg):aX:=Br an λan=>Bq l λl=>calm 0 an [] l
theorem Sk(an:aA (aA aF))(l:aA Lg):M6 an l=calm 0 an [] l:=by simp only[M6,Cp,Co]
def bS:AV->aA aF
 | .own n=>[n]| .vw n _ _=>[n]| .bp n _=>[n]| .rp n _ _=>[n]| .inn n _ _=>[n]| .ip n _ _ _ _=>[n]|_=>[]
def cQ:SV->aA aF
 | .v _ xs=>xs.flatMap bS| .kj l=>l.flatMap λ(_,xs)=>xs.flatMap bS| .un=>[]
def W9:aA aF->aA aF->aA aF
 |l,[]=>l
 |l,n::r=>mX (bif mK n l then l else l++[n]) λl=>W9 l r
def slot(σ:St)(n:aF):SV:=match σ (qu n)with| .v x=>x|_=> .un
def aj4(σ:St)(nm:aF):aA aF:=match σ (c9 nm)with| .o (.box xs)=>xs.flatMap bS|_=>[]
def idx(n:aF):aF->aA aF->az aF
 |_,[]=>aj|i,m::r=>bif bD n m then ah i else idx n (i+1) r
def enc(f:aX)(k:aF):aF:=bif f then k*1000+999 else k
def wk(l:aA aF)(n:aF):az aF:=bif fL 900000000 n then(bif mK n l then ah n else aj)else(match idx n 0 l with|some k=>ah (enc (zD n) k)|none=>aj)
def p8(l:aA aF)(a:AV):AV:=
 match a with
 | .own n=>match wk l n with|some k=> .own k|none=> .nl
 | .vw n lo hi=>match wk l n with|some k=> .vw k lo hi|none=> .nl
 | .bp n j=>match wk l n with|some k=> .bp k j|none=> .nl
 | .rp n i j=>match wk l n with|some k=> .rp k i j|none=> .nl
 | .inn n i j=>match wk l n with|some k=> .inn k i j|none=> .nl
 | .ip n i j i2 j2=>match wk l n with|some k=> .ip k i j i2 j2|none=> .nl
 |a=>a
def zF(l:aA aF)(ns:aA aF):aX:=ns.all λn=>mK n l
def Fp(l:aA aF)(v:SV):SV:=
 bif zF l (cQ v)then(match v with
 | .v agg xs=> .v agg (xs.map (p8 l))| .kj r=> .kj (r.map λ(g,xs)=>(g,xs.map (p8 l)))| .un=> .un)else .un
def P4(l:aA aF)(o:eU):eU:=
 match o with
 | .o (.box xs)=>bif zF l (xs.flatMap bS)then .o (.box (xs.map (p8 l)))else .o .dead
 | .o x=> .o x
 |_=> .o .dead
def fN:aA (aF×eU)->St
 |[],_=> .j8
 |(k,c)::r,n=>bif bD n k then c else fN r n
def wh(σ:St)(l:aA aF):aA aF->aA (aF×eU)
 |[]=>[]|n::r=>match wk l n with|some k=>(c9 k,P4 l (σ (c9 n)))::wh σ l r|none=>wh σ l r
def KE(keep:aA aF)(σ:St):aA aF:=
 mX (W9 [] (keep.flatMap λn=>cQ (slot σ n))) λl0=>mX (W9 l0 (l0.flatMap (aj4 σ))) λl1=>W9 l1 (l1.flatMap (aj4 σ))
def KD(keep:aA aF)(σ:St)(l:aA aF):aA (aF×eU):=
 bif fL l.length 900 then keep.map (λn=>(qu n, .v (Fp l (slot σ n))))++wh σ l l else []
def Ya(x:aF):aX:=fL 1000000000000000 x
def ab0(x:aF):aF:=(x/1000000)%1000000000
def Tv(x:aF):aF:=(x/1000)%1000
def kTy(x:aF):aF:=x%1000
def kNm(x:aF):aF:=800000000+((x/1000)%1000000)*100
def Am{α:Type}(x:aF)(σ:St)(f:St->α):α:=
 match slot σ (ab0 x)with
 | .v ak [.bp nm 0]=>match σ (c9 nm),σ (c9 (kNm x))with
  | .o (.box xs), .j8=>match xs[Tv x]? with
   |some .nl=>pw (xs.set (Tv x) (.own (kNm x))) λys=>f (pP (pP σ (c9 nm) (.o (.box ys))) (c9 (kNm x)) (.o (.row (kTy x) ai [])))
   |_=>f σ
  |_,_=>f σ
 |_=>f σ
def NL{α:Type}:aA aF->St->(St->α)->α
 |[],σ,f=>f σ
 |x::r,σ,f=>bif Ya x then Am x σ (λσ=>NL r σ f)else NL r σ f
def KF(keep:aA aF)(σ:St):aA (aF×eU):=NL keep σ λσ=>mX (keep.filter λx=> !Ya x) λkeep=>mX (KE keep σ) λl=>KD keep σ l
def canon(keep:aA aF)(σ:St):St:=fN (KF keep σ)
def fS.Ak(E:fS)(n:aF):aA aF:=(E.keep n).filter λx=>bif Ya x then(match E.ty (kTy x)with|some _=>ai|none=>ak)else ai
def gH:Code->aF
 | .region id _ _=>id| .seq a _=>gH a| .block _ c=>gH c| .scope c=>gH c|_=>0
def E_{R:Type}(g:St->az R)(cn:St->St)(K:Ex->St->az R):Ex->St->az R
 | .normal,σ=>g (cn σ)
 |e,σ=>K e (cn σ)
def iter{R:Type}(f:St->(Ex->St->az R)->az R)(cn:St->St):aF->St->(Ex->St->az R)->az R
 |0,_,_=>aj
 |n+1,σ,K=>f σ (E_ (λs=>iter f cn n s K) cn K)
theorem PB{R:Type}(f:St->(Ex->St->az R)->az R)(cn:St->St)(n:aF)(σ:St)(K:Ex->St->az R):iter f cn (n+1) σ K=f σ (E_ (λs=>iter f cn n s K) cn K):=rfl
abbrev It(R:Type):=aF->(St->(Ex->St->az R)->az R)->(St->St)->aA (aF×eU)->(Ex->St->az R)->az R
def awQ{R:Type}(n:aF):It R:=λ_ f cn L K=>iter f cn n (fN L) K
def avz{R:Type}(f:St->(Ex->St->az R)->az R)(K:Ex->St->az R):Ex->St->az R
 | .normal,σ=>f σ K
 |e,σ=>K e σ
def arj{R:Type}(id:aF)(K:Ex->St->az R):Ex->St->az R
 | .exit j,σ=>bif bD j id then K .normal σ else K (.exit j) σ
 |e,σ=>K e σ
def tz{R:Type}(E:fS)(it:It R):Code->St->(Ex->St->az R)->az R
 | .skip,σ,K=>K .normal σ
 | .region id os draw,σ,K=>ops E os id 0 os.toList σ [] λσ lg=>bif !draw||(JD 0 os.toList&&M6 (GI [] os.toList) lg.reverse)then K .normal σ else aj
 | .seq a b,σ,K=>tz E it a σ (avz (tz E it b) K)
 | .cond c a b,σ,K=>match c with
  | .tmp t=>match σ (qu t)with
   | .v (.v ak [.b x])=>bif x then(tz E it a (pP σ (qu t) (.v (.v ak [.b ai]))) K)else(tz E it b (pP σ (qu t) (.v (.v ak [.b ak]))) K)
   |_=>aj
  |_=>aj
 | .block id c,σ,K=>tz E it c σ (arj id K)
 | .loop c,σ,K=>it (gH c) (tz E it c) (canon (E.Ak (gH c))) (KF (E.Ak (gH c)) σ) K
 | .exit id,σ,K=>K (.exit id) σ
 | .ret,σ,K=>K .ret σ
 |_,_,_=>aj
def jY:Code->aA Code
 | .seq a b=>jY a++jY b
 | .cond _ a b=>jY a++jY b
 | .block _ c=>jY c
 | .loop c=>c::jY c
 |_=>[]
def CB(oi:aF):Code->az Code
 | .seq a b=>match CB oi a with|some r=>ah r|none=>CB oi b
 | .cond _ a b=>match CB oi a with|some r=>ah r|none=>CB oi b
 | .block _ c=>CB oi c
 | .loop c=>bif bD (gH c) oi then ah c else CB oi c
 |_=>aj
def bX(F:Func)(oi:aF):Code:=((F.body.bind (CB oi)).getD .skip)
end Go.FG

namespace Go.FG
def dU(p j:aF):aF:=900000000+p*1000+j
def lB(nm:aF)(a:AA):AV:=
 match a with
 | .i k n=> .i k n| .b x=> .b x| .s x=> .s x| .sh e xs=> .sh e xs| .nl=> .nl
 | .ow _ _ _=> .own nm| .kp _=> .nl| .fn f iX=> .fn f iX
def E7(nm:aF)(a:AA):aA (aF×eU):=match a with| .ow e ex xs=>[(c9 nm, .o (.row e ex xs))]|_=>[]
def gA(nm:aF):aA AA->aA AV
 |[]=>[]|a::r=>lB nm a::gA (nm+1) r
def tG(nm:aF):aA AA->aA (aF×eU)
 |[]=>[]|a::r=>E7 nm a++tG (nm+1) r
def tH(p:aF)(a:fy):SV:=
 match a with
 | .v agg xs=> .v agg (gA (dU p 0) xs)
 | .pt _=> .v ak [.bp (dU p 900) 0]
 | .fb xs=> .v ak [.fp xs 0]
def vv(p:aF)(a:fy):aA (aF×eU):=
 match a with
 | .v _ xs=>tG (dU p 0) xs
 | .pt xs=>(c9 (dU p 900), .o (.box (gA (dU p 0) xs)))::tG (dU p 0) xs
 | .fb _=>[]
def Lf:aF->aA fy->aA (aF×eU)
 |_,[]=>[]|p,a::r=>(qu p, .v (tH p a))::vv p a++Lf (p+1) r
def inj(args:aA fy):St:=fN (Lf 0 args)
def Ah(E:fS)(e:aF):aX:=match E.ty e with|some _=>ai|none=>ak
def Ag(E:fS)(om:Om)(σ:St)(k:Ck)(a:AV):az (AA×aA aF×aA aF):=
 match a with
 | .i k n=>ah (.i k n,[],[])| .b x=>ah (.b x,[],[])| .s x=>ah (.s x,[],[])
 | .sh e xs=>match om with| .own _=>aj|_=>ah (.sh e xs,[],[])
 | .nl=>match om with
  | .own e=>bif Ah E e then ah (.ow e ai [],[],[])else aj
  | .sh e=>ah (.sh e [],[],[])
  | .nat=>match k with| .l e=>bif Ah E e then ah (.ow e ai [],[],[])else aj|_=>ah (.nl,[],[])
 | .own nm=>match σ (c9 nm)with
  | .o (.row e ex xs)=>match om with| .sh _=>ah (.sh e xs,[],[nm])|_=>ah (.ow e ex xs,[nm],[])
  | .o (.fU e xs)=>match om with| .own _=>aj|_=>ah (.sh e xs,[],[])
  |_=>aj
 | .vw nm lo hi=>match σ (c9 nm)with
  | .o (.row e ex xs)=>match om with| .sh _=>ah (.sh e (eA xs lo hi),[],[nm])|_=>ah (.ow e ex (eA xs lo hi),[nm],[])
  | .o (.fU e xs)=>match om with| .own _=>aj|_=>ah (.sh e (eA xs lo hi),[],[])
  |_=>aj
 |_=>aj
def tC(E:fS)(q:aF)(σ:St):aF->aA Ck->aA AV->az (aA AA×aA aF×aA aF)
 |_,_,[]=>ah ([],[],[])
 |j,ks,a::r=>match Ag E (E.om q j) σ (ks.headD .o) a,tC E q σ (j+1) ks.tail r with
  |some (x,l,m),ah (xs,ls,ms)=>ah (x::xs,l++ls,m++ms)
  |_,_=>aj
def Nm(E:fS)(q:aF)(σ:St)(ks:aA Ck)(v:SV):az (fy×aA aF×aA aF):=
 match v with
 | .v ak [.bp nm 0]=>match σ (c9 nm)with
  | .o (.box xs)=>match tC E q σ 0 [] xs with|some (l,ns,ms)=>ah (.pt l,nm::ns,ms)|none=>aj
  |_=>aj
 | .v agg xs=>match tC E q σ 0 ks xs with|some (l,ns,ms)=>ah (.v agg l,ns,ms)|none=>aj
 |_=>aj
def UX(E:fS)(q:aF)(σ:St)(r:ResultVar)(t:aF):az (fy×aA aF×aA aF):=
 match E.ty t with
 |none=>aj
 |some ti=>match r with
  | .tmp s=>Nm E q σ ti.ks (slot σ s)
  | .cell a t'=>match E.ty t',slot σ a with
   |some VR, .v ak [.bp nm 0]=>match σ (c9 nm)with| .o (.box xs)=>bif bD xs.length VR.ks.length then Nm E q σ ti.ks (.v VR.agg xs)else aj|_=>aj
   |_,_=>aj
def CZ(E:fS)(σ:St):aF->aA ResultVar->aA aF->az (aA fy×aA aF×aA aF)
 |_,[],_=>ah ([],[],[])
 |q,r::rs,ts=>match UX E q σ r (ts.headD 0),CZ E σ (q+1) rs ts.tail with
  |some (a,l,m),ah (as,ls,ms)=>ah (a::as,l++ls,m++ms)
  |_,_=>aj
def JQ(a b:aX):aX:=bif a then b else !b
def nD(σ:St)(tk:aA aF)(nm:aF)(a:AA):AA×aA aF:=
 match a with
 | .ow e ex _=>bif mK nm tk then(.nl,[])else(match σ (c9 nm)with| .o (.row e' uA xs)=>bif bD e e'&&JQ ex uA then(.kp xs,[nm])else(.nl,[])|_=>(.nl,[]))
 |_=>(.nl,[])
def pX(σ:St)(tk:aA aF)(nm:aF):aA AA->aA AA×aA aF
 |[]=>([],[])|a::r=>((nD σ tk nm a).1::(pX σ tk (nm+1) r).1,(nD σ tk nm a).2++(pX σ tk (nm+1) r).2)
def aaY(E:fS)(om:Om)(σ:St)(nm:aF)(b:AA)(a:AV):az (AA×aA aF×aA aF):=
 match om,b,a with
 | .nat, .ow e ex _, .own n=>bif bD n nm then(match σ (c9 n)with| .o (.row e' uA xs)=>bif bD e e'&&JQ ex uA then ah (.kp xs,[n],[])else aj|_=>aj)else Ag E om σ .o a
 |_,_,a=>Ag E om σ .o a
def GN(E:fS)(q:aF)(σ:St):aF->aA AA->aA AV->az (aA AA×aA aF×aA aF)
 |_,_,[]=>ah ([],[],[])
 |j,bs,a::r=>match aaY E (E.om q j) σ (dU q j) (bs.headD .nl) a,GN E q σ (j+1) bs.tail r with
  |some (x,l,m),ah (xs,ls,ms)=>ah (x::xs,l++ls,m++ms)
  |_,_=>aj
def SQ:aA AA->aX
 |[]=>ak| .ow _ _ _::_=>ai|_::r=>SQ r
def CR(E:fS)(σ:St)(tk:aA aF):aF->aA fy->az (aA (aA AA)×aA aF×aA aF)
 |_,[]=>ah ([],[],[])
 |p,a::r=>match CR E σ tk (p+1) r with
  |none=>aj
  |some (l,ns,ms)=>match a with
   | .v _ xs=>bif SQ xs then ah ((pX σ tk (dU p 0) xs).1::l,(pX σ tk (dU p 0) xs).2++ns,ms)else ah ([]::l,ns,ms)
   | .pt xs=>match σ (c9 (dU p 900))with
    | .o (.box vs)=>match GN E p σ 0 xs vs with|some (as,ns',ms')=>ah (as::l,dU p 900::(ns'++ns),ms'++ms)|none=>aj
    |_=>aj
   | .fb _=>ah ([]::l,ns,ms)
def uz:aA (aA AA)->aA (aA AA)
 |[]=>[]
 |x::r=>match x,uz r with|[],[]=>[]|x,r=>x::r
def fin(E:fS)(F:Func)(args:aA fy)(e:Ex)(σ:St):az dB:=
 match e with
 | .exit _=>aj
 |_=>match CZ E σ 500 F.results.toList F.resultTypes.toList with
  |some (rs,tk,fz)=>match CR E σ (tk++fz) 0 args with
   |some (outs,ns,ms)=>bif tM (tk++ns)&&rK (tk++ns) (fz++ms)&&fL args.length 500&&(args.all λa=>fL (nB a) 100)&&(rs.all λa=>fL (nB a) 100)&&(outs.all λa=>fL a.length 100)then ah ⟨rs,uz outs⟩else aj
   |none=>aj
  |none=>aj
def body(E:fS)(it:It dB)(F:Func)(args:aA fy):az dB:=
 match F.body with
 |some c=>tz E it c (inj args) (fin E F args)
 |none=>aj
end Go.FG

namespace Go.FG
structure Pl where
 nil:aX
 blk:aF
 off:aF
 cap:aF
 n:aF
 sz:aF
def lT(p:Pl):bk:=if p.nil=ai then .slice aj 0 0 else .slice (ah ⟨p.blk,p.off,aj⟩) p.n p.cap
def nZ(w:bL)(b:aF)(vals:dv bk):Prop:=
 ∃t fr,w.heap[b]? =ah (.cells vals t fr)/\∀o,o<=vals.size->(decide (fr.1<=o)&&decide (o<fr.2))=ak
def Qc:CV->bk
 | .i k n=> .int k n| .b x=> .bool x| .s x=> .string x| .l _ _=> .nilIface
def D8(x:aq):Prop:=x.size<=4611686018427387904
def okC:CV->Prop
 | .s x=>D8 x|_=>True
def Sc(u:bk)(x:CV):Prop:=u=Qc x/\okC x
structure e_ where
 P:aF->Pl
 G:aF->aF->aF->Pl
 K:aF->Prop
abbrev ad(b o:aF):Addr:=⟨b,o,aj⟩
inductive da (E:Tab) (w:bL) (K:aF->Prop):bk->CV->Prop
 |i (k n):da E w K (.int k n) (.i k n)
 |b (x):da E w K (.bool x) (.b x)
 |s (x) (h:D8 x):da E w K (.string x) (.s x)
 |nl (e A c):da E w K (.slice A 0 c) (.l e [])
 |l (e xs b o c ti) (U:aF->aF->bk) (ht:E.ty e=ah ti) (hc:xs.length<=c) (hm:c<=maxLen) (hK:K b) (hs:∀y∈xs,y.map CV.kd=ti.ks)
  (hcell:∀i j y x,xs[i]? =ah y->y[j]? =ah x->w.cell? (ad b (o+i*ti.ks.length+j))=ah (U i j))
  (gh:∀i j y x,xs[i]? =ah y->y[j]? =ah x->da E w K (U i j) x):da E w K (.slice (ah (ad b o)) xs.length c) (.l e xs)
theorem nZ.cell{w:bL}{b:aF}{vals:dv bk}(h:nZ w b vals)(o:aF):w.cell? (ad b o)=vals[o]? :=by obtain⟨t,fr,h,_⟩:=h;simp[World.cell?,h]
theorem nZ.lt{w:bL}{b:aF}{vals:dv bk}(h:nZ w b vals):b<w.heap.size:=by obtain⟨t,fr,h,_⟩:=h;exact(dV.1 h).1
theorem nZ.free{w:bL}{b:aF}{vals:dv bk}(h:nZ w b vals){o:aF}(ho:o<vals.size):w.frozen? (ad b o)=false:=by obtain⟨t,fr,h,hf⟩:=h;have:=hf o (Nat.le_of_lt ho);simpa [World.frozen?,h]using this
theorem nZ.frame{w w':bL}{b:aF}{vals:dv bk}(h:nZ w b vals)(e:w'.heap[b]? =w.heap[b]?):nZ w' b vals:=by obtain⟨t,fr,h,hf⟩:=h;exact⟨t,fr,e.trans h,hf⟩
theorem da.frame{E:Tab}{w w':bL}{K K':aF->Prop}{v:bk}{x:CV}(h:da E w K v x)(hw:∀b,K b->w'.heap[b]? =w.heap[b]?)(hK:∀b,K b->K' b):da E w' K' v x:=by
 induction h with
 |i=>exact .i _ _
 |b=>exact .b _
 |s x h=>exact .s _ h
 |nl=>exact .nl _ _ _
 |l e xs b o c ti U ht hc hm hKb hs hcell gh ih=>exact .l e xs b o c ti U ht hc hm (hK b hKb) hs (λi j y x h1 h2=>(uT (a:=ad b _) (hw b hKb)).trans (hcell i j y x h1 h2)) (λi j y x h1 h2=>ih i j y x h1 h2)
structure jj (w:bL) (p:Pl) (xs:aQ) (R:aF->aF->bk->CV->Prop):Prop where
 n:p.n=xs.length
 nil:p.nil=ai->xs=[]/\p.cap=0
 mem:p.nil=ak->∃vals,nZ w p.blk vals/\p.n<=p.cap/\p.cap<=maxLen/\p.off+p.cap*p.sz<=vals.size/\
  ∀(i:aF) (y:aA CV) (j:aF) (x:CV),xs[i]? =ah y->y[j]? =ah x->∃u:bk,vals[p.off+i*p.sz+j]? =ah u/\R i j u x
def XC(E:Tab)(w:bL)(G:aF->aF->Pl)(i j:aF)(u:bk):CV->Prop
 | .l e ys=>u=lT (G i j)/\∃ti,E.ty e=ah ti/\plain ti.ks=ai/\(G i j).sz=ti.ks.length/\(∀y∈ys,y.map CV.kd=ti.ks)/\jj w (G i j) ys (λ_ _ u x=>Sc u x)
 |x=>Sc u x
def uD:CV->aX| .l _ _=>ai|_=>ak
def gk(xs:aQ)(i j:aF):Prop:=∃y x,xs[i]? =ah y/\y[j]? =ah x/\uD x=ai
structure FQ (p:Pl) (G:aF->aF->Pl) (xs:aQ):Prop where
 out:∀i j,gk xs i j->(G i j).nil=ak->p.nil=ak->(G i j).blk≠p.blk
 one:∀i j i' j',gk xs i j->gk xs i' j'->(G i j).nil=ak->(G i' j').nil=ak->(G i j).blk=(G i' j').blk->i=i'/\j=j'
structure MI (E:Tab) (w:bL) (c:e_) (nm e:aF) (ex:aX) (xs:aQ):Prop where
 sh:∃ti,E.ty e=ah ti/\(c.P nm).sz=ti.ks.length/\∀y∈xs,y.map CV.kd=ti.ks
 at_:jj w (c.P nm) xs (λi j u x=>if ex=ai then XC E w (c.G nm) i j u x else da E w c.K u x)
 inn:ex=ai->FQ (c.P nm) (c.G nm) xs
def FB(E:Tab)(w:bL)(K:aF->Prop)(b:aF)(cs:aA CV):Prop:=
 K b/\∀(q:aF) (x:CV),cs[q]? =ah x->∃u:bk,w.cell? (ad b q)=ah u/\da E w K u x
def wV(p:Pl)(lo hi:aF)(v:bk):Prop:=
 lo<=hi/\hi<=p.n/\(p.nil=ai->v= .slice aj 0 0)/\
 (p.nil=ak->(lo<p.cap/\v= .slice (ah (ad p.blk (p.off+lo*p.sz))) (hi-lo) (p.cap-lo))\/(lo=p.cap/\∃o,o<=p.off+p.cap*p.sz/\v= .slice (ah (ad p.blk o)) 0 0))
def eM(E:Tab)(w:bL)(c:e_):AV->bk->Prop
 | .i k n,v=>v= .int k n
 | .b x,v=>v= .bool x
 | .s x,v=>v= .string x/\D8 x
 | .sh e xs,v=>da E w c.K v (.l e xs)
 | .nl,v=>v= .slice aj 0 0
 | .own nm,v=>v=lT (c.P nm)
 | .vw nm lo hi,v=>wV (c.P nm) lo hi v
 | .bp nm j,v=>v= .pointer (ah (ad (c.P nm).blk j))
 | .rp nm i j,v=>i<(c.P nm).n/\v= .pointer (ah (ad (c.P nm).blk ((c.P nm).off+i*(c.P nm).sz+j)))
 | .sp e xs i j,v=>∃b o cp ti,da E w c.K (.slice (ah (ad b o)) xs.length cp) (.l e xs)/\i<xs.length/\E.ty e=ah ti/\v= .pointer (ah (ad b (o+i*ti.ks.length+j)))
 | .inn nm i j,v=>(i<(c.P nm).n/\v=lT (c.G nm i j))/\zD nm=ak
 | .ip nm i j i2 j2,v=>(i<(c.P nm).n/\i2<(c.G nm i j).n/\v= .pointer (ah (ad (c.G nm i j).blk ((c.G nm i j).off+i2*(c.G nm i j).sz+j2))))/\zD nm=ak
 | .fn f iX,v=>∃ps:dv bk,v= .func (.func f) #[] ps/\ps.size=iX.length/\∀(q:aF) (cs:aA CV),iX[q]? =ah cs->∃b:aF,ps[q]? =ah (.pointer (ah (ad b 0)))/\FB E w c.K b cs
 | .fp cs j,v=>∃b,v= .pointer (ah (ad b j))/\FB E w c.K b cs
def qn(E:Tab)(w:bL)(c:e_)(agg:aX)(xs:aA AV)(v:bk):Prop:=
 match agg,xs with
 |false,[a]=>eM E w c a v
 |true,xs=>∃vals:dv bk,v= .agg vals/\vals.size=xs.length/\∀(j:aF) (a:AV),xs[j]? =ah a->∃u:bk,vals[j]? =ah u/\eM E w c a u
 |_,_=>False
def jk(E:Tab)(w:bL)(c:e_):SV->bk->Prop
 | .v agg xs,v=>qn E w c agg xs v
 | .kj l,v=>∃vs:dv bk,v= .tuple vs/\vs.size=l.length/\∀(j:aF) (agg:aX) (xs:aA AV),l[j]? =ah (agg,xs)->∃u:bk,vs[j]? =ah u/\qn E w c agg xs u
 | .un,_=>True
def pS(E:Tab)(w:bL)(c:e_)(nm:aF):Obj->Prop
 | .box xs=>∃vals,nZ w (c.P nm).blk vals/\vals.size=xs.length/\∀(j:aF) (a:AV),xs[j]? =ah a->∃u:bk,vals[j]? =ah u/\eM E w c a u
 | .oa cs=>FB E w c.K (c.P nm).blk cs
 | .row e ex xs=>MI E w c nm e ex xs
 | .fU e xs=>da E w c.K (lT (c.P nm)) (.l e xs)/\(c.P nm).n=xs.length/\∃ti,E.ty e=ah ti/\(c.P nm).sz=ti.ks.length
 | .dead=>True
def fM(c:e_)(nm:aF):Obj->aF->Prop
 | .box _,b=>b=(c.P nm).blk
 | .row _ ex xs,b=>((c.P nm).nil=ak/\b=(c.P nm).blk)\/(ex=ai/\∃i j,gk xs i j/\(c.G nm i j).nil=ak/\b=(c.G nm i j).blk)
 |_,_=>False
def wI(σ:St)(c:e_)(b:aF):Prop:=∃nm o,σ (c9 nm)= .o o/\fM c nm o b
def jh(σ:St)(a:AV):Prop:=∀n∈bS a,σ (c9 n)≠ .j8
def mR(σ:St)(v:SV):Prop:=∀n∈cQ v,σ (c9 n)≠ .j8
structure Ok (E:Tab) (σ:St) (w:bL) (c:e_):Prop where
 obj:∀nm o,σ (c9 nm)= .o o->pS E w c nm o
 sep:∀nm o xO o' b,σ (c9 nm)= .o o->σ (c9 xO)= .o o'->fM c nm o b->fM c xO o' b->nm=xO
 kk:∀nm o b,σ (c9 nm)= .o o->fM c nm o b->¬c.K b
 lt:∀b,c.K b->b<w.heap.size
 kn:∀nm xs,σ (c9 nm)= .o (.box xs)->∀a∈xs,jh σ a
structure fF (E:Tab) (σ:St) (a:Act) (w:bL) (c:e_):Prop where
 ok:∀n,jk E w c (slot σ n) (a.eval (.tmp n))
 kn:∀n,mR σ (slot σ n)
 df:a.defers=[]
def jF(σ:St)(c c':e_):Prop:=∀nm,(σ (c9 nm)≠ .j8\/900000000<=nm)->c'.P nm=c.P nm/\c'.G nm=c.G nm
def q_(σ:St)(c c':e_):Prop:=∀nm,(σ (c9 nm)≠ .j8\/900000000<=nm)->c'.P nm=c.P nm/\(zD nm=ak->c'.G nm=c.G nm)
theorem jF.w{σ:St}{c c':e_}(h:jF σ c c'):q_ σ c c':=λnm hn=>⟨(h nm hn).1,λ_=>(h nm hn).2⟩
structure oC (σ:St) (c:e_) (w:bL) (σ':St) (c':e_) (w':bL):Prop where
 os:w'.os=w.os
 tape:w'.tape=w.tape
 output:w'.output=w.output
 size:w.heap.size<=w'.heap.size
 K:∀b,c.K b->c'.K b
 same:∀b,b<w.heap.size->¬wI σ c b->w'.heap[b]? =w.heap[b]?
 own:∀b,wI σ' c' b->wI σ c b\/w.heap.size<=b
 kn:∀b,c'.K b->c.K b\/wI σ c b\/w.heap.size<=b
theorem wI.lt{E:Tab}{σ:St}{w:bL}{c:e_}(h:Ok E σ w c){b:aF}(ho:wI σ c b):b<w.heap.size:=by
 obtain⟨nm,o,h1,h2⟩:=ho;have mY:=h.obj nm o h1;cases o with
 |box xs=>obtain⟨vals,hb,_⟩:=mY;cases h2;exact hb.lt
 |oa=>exact h2.elim
 |fU=>exact h2.elim
 |dead=>exact h2.elim
 |row e ex xs=>
  rcases h2 with ⟨hn,rfl⟩|⟨hex,i,j,⟨y,x,hy,hx,hl⟩,hn,rfl⟩
  ·obtain⟨vals,hb,_⟩:=mY.at_.mem hn;exact hb.lt
  ·by_cases hp:(c.P nm).nil=ai
   ·have:=(mY.at_.nil hp).1;subst this;simp at hy
   ·obtain⟨vals,hb,_,_,_,hc⟩:=mY.at_.mem (by simpa using hp);obtain⟨u,_,hu⟩:=hc i y j x hy hx;rw[bz hex]at hu;cases x with
    |l e2 ys=>obtain⟨_,ti,_,_,_,_,hr⟩:=hu;obtain⟨v2,E2,_⟩:=hr.mem hn;exact E2.lt
    |i=>simp[uD]at hl
    |b=>simp[uD]at hl
    |s=>simp[uD]at hl
theorem Ok.Jz{E:Tab}{σ:St}{w:bL}{c:e_}(h:Ok E σ w c){b:aF}(ho:wI σ c b):¬c.K b:=by obtain⟨nm,o,h1,h2⟩:=ho;exact h.kk nm o b h1 h2
theorem oC.refl(σ:St)(c:e_)(w:bL):oC σ c w σ c w:=
 ⟨rfl,rfl,rfl,cG _,λ_ h=>h,λ_ _ _=>rfl,λ_ h=> .inl h,λ_ h=> .inl h⟩
theorem oC.trans{σ σ1 σ2:St}{c c1 c2:e_}{w w1 w2:bL}(h:oC σ c w σ1 c1 w1)(k:oC σ1 c1 w1 σ2 c2 w2):oC σ c w σ2 c2 w2 where
 os:=k.os.trans h.os
 tape:=k.tape.trans h.tape
 output:=k.output.trans h.output
 size:=di h.size k.size
 K b hb:=k.K b (h.K b hb)
 same b hb hn:=(k.same b (jw hb h.size) (λho=>(h.own b ho).elim hn (λh=>by omega))).trans (h.same b hb hn)
 own b hb:=(k.own b hb).elim (h.own b) (λh1=> .inr (di h.size h1))
 kn b hb:=by
  rcases k.kn b hb with h1|h1|h1
  ·exact h.kn b h1
  ·exact .inr (h.own b h1)
  ·exact .inr (.inr (di h.size h1))
theorem oC.aaq{E:Tab}{σ σ':St}{c c':e_}{w w':bL}(cg:Ok E σ w c)(h:oC σ c w σ' c' w'):∀b,c.K b->w'.heap[b]? =w.heap[b]? :=
 λb hb=>h.same b (cg.lt b hb) (λho=>cg.Jz ho hb)
theorem FB.frame{E:Tab}{w w':bL}{K K':aF->Prop}{b:aF}{cs:aA CV}(h:FB E w K b cs)(hw:∀b,K b->w'.heap[b]? =w.heap[b]?)(hK:∀b,K b->K' b):FB E w' K' b cs:=
 ⟨hK b h.1,λq x hq=>by
  obtain⟨u,hu,hh⟩:=h.2 q x hq;exact⟨u,(uT (a:=ad b q) (hw b h.1)).trans hu,hh.frame hw hK⟩⟩
theorem eM.py{E:Tab}{w w':bL}{c c':e_}{a:AV}{v:bk}(h:eM E w c a v)(hw:∀b,c.K b->w'.heap[b]? =w.heap[b]?)(hK:∀b,c.K b->c'.K b)
  (hP:∀n∈bS a,c'.P n=c.P n/\(zD n=ak->c'.G n=c.G n)):eM E w' c' a v:=by
 cases a with
 |i=>exact h
 |b=>exact h
 |s=>exact h
 |nl=>exact h
 |sh e xs=>exact da.frame h hw hK
 |own n=>have:=hP n (by simp[bS]);simp only[eM,this.1]at h⊢;exact h
 |vw n lo hi=>have:=hP n (by simp[bS]);simp only[eM,this.1]at h⊢;exact h
 |bp n j=>have:=hP n (by simp[bS]);simp only[eM,this.1]at h⊢;exact h
 |rp n i j=>have:=hP n (by simp[bS]);simp only[eM,this.1]at h⊢;exact h
 |inn n i j=>have h0:=hP n (by simp[bS]);have this:=h0.2 h.2;simp only[eM,h0.1,this]at h⊢;exact h
 |ip n i j i2 j2=>have h0:=hP n (by simp[bS]);have this:=h0.2 h.2;simp only[eM,h0.1,this]at h⊢;exact h
 |sp e xs i j=>obtain⟨b,o,cp,ti,h1,h2,h3,h4⟩:=h;exact⟨b,o,cp,ti,h1.frame hw hK,h2,h3,h4⟩
 |fn f iX=>obtain⟨ps,h1,h2,h3⟩:=h;exact⟨ps,h1,h2,λq cs hq=>by obtain⟨b,hb,hf⟩:=h3 q cs hq;exact⟨b,hb,hf.frame hw hK⟩⟩
 |fp cs j=>obtain⟨b,h1,h2⟩:=h;exact⟨b,h1,h2.frame hw hK⟩
theorem qn.py{E:Tab}{w w':bL}{c c':e_}{agg:aX}{xs:aA AV}{v:bk}(h:qn E w c agg xs v)(hw:∀b,c.K b->w'.heap[b]? =w.heap[b]?)(hK:∀b,c.K b->c'.K b)
  (hP:∀n∈xs.flatMap bS,c'.P n=c.P n/\(zD n=ak->c'.G n=c.G n)):qn E w' c' agg xs v:=by
 unfold qn at h⊢;split at h
 ·rename_i a;exact eM.py h hw hK (λn hn=>hP n (by simpa using hn))
 ·obtain⟨vals,h1,h2,h3⟩:=h;refine⟨vals,h1,h2,λj a hj=> ?_⟩
  obtain⟨u,hu,hv⟩:=h3 j a hj;exact⟨u,hu,hv.py hw hK (λn hn=>hP n (bQ.2 ⟨a,aR hj,hn⟩))⟩
 ·exact h.elim
theorem jk.py{E:Tab}{w w':bL}{c c':e_}{s:SV}{v:bk}(h:jk E w c s v)(hw:∀b,c.K b->w'.heap[b]? =w.heap[b]?)(hK:∀b,c.K b->c'.K b)
  (hP:∀n∈cQ s,c'.P n=c.P n/\(zD n=ak->c'.G n=c.G n)):jk E w' c' s v:=by
 cases s with
 |un=>trivial
 |v agg xs=>exact qn.py h hw hK hP
 |kj l=>
  obtain⟨vs,h1,h2,h3⟩:=h;refine⟨vs,h1,h2,λj agg xs hj=> ?_⟩
  obtain⟨u,hu,hv⟩:=h3 j agg xs hj;exact⟨u,hu,hv.py hw hK (λn hn=>hP n (bQ.2 ⟨(agg,xs),aR hj,hn⟩))⟩
theorem eM.frame{E:Tab}{w w':bL}{c c':e_}{a:AV}{v:bk}(h:eM E w c a v)(hw:∀b,c.K b->w'.heap[b]? =w.heap[b]?)(hK:∀b,c.K b->c'.K b)
  (hP:∀n∈bS a,c'.P n=c.P n/\c'.G n=c.G n):eM E w' c' a v:=h.py hw hK (λn hn=>⟨(hP n hn).1,λ_=>(hP n hn).2⟩)
theorem qn.frame{E:Tab}{w w':bL}{c c':e_}{agg:aX}{xs:aA AV}{v:bk}(h:qn E w c agg xs v)(hw:∀b,c.K b->w'.heap[b]? =w.heap[b]?)(hK:∀b,c.K b->c'.K b)
  (hP:∀n∈xs.flatMap bS,c'.P n=c.P n/\c'.G n=c.G n):qn E w' c' agg xs v:=h.py hw hK (λn hn=>⟨(hP n hn).1,λ_=>(hP n hn).2⟩)
theorem jk.frame{E:Tab}{w w':bL}{c c':e_}{s:SV}{v:bk}(h:jk E w c s v)(hw:∀b,c.K b->w'.heap[b]? =w.heap[b]?)(hK:∀b,c.K b->c'.K b)
  (hP:∀n∈cQ s,c'.P n=c.P n/\c'.G n=c.G n):jk E w' c' s v:=h.py hw hK (λn hn=>⟨(hP n hn).1,λ_=>(hP n hn).2⟩)
theorem jj.frame{w w':bL}{p:Pl}{xs:aQ}{R R':aF->aF->bk->CV->Prop}(h:jj w p xs R)(hw:p.nil=ak->w'.heap[p.blk]? =w.heap[p.blk]?)
  (hR:∀i j y x u,xs[i]? =ah y->y[j]? =ah x->R i j u x->R' i j u x):jj w' p xs R' where
 n:=h.n
 nil:=h.nil
 mem hn:=by
  obtain⟨vals,h1,h2,h3,h4,h5⟩:=h.mem hn;refine⟨vals,h1.frame (hw hn),h2,h3,h4,λi y j x hi hj=> ?_⟩
  obtain⟨u,hu,hr⟩:=h5 i y j x hi hj;exact⟨u,hu,hR i j y x u hi hj hr⟩
theorem XC.frame{E:Tab}{w w':bL}{G:aF->aF->Pl}{i j:aF}{u:bk}{x:CV}(h:XC E w G i j u x)(hw:uD x=ai->(G i j).nil=ak->w'.heap[(G i j).blk]? =w.heap[(G i j).blk]?):XC E w' G i j u x:=by
 cases x with
 |l e ys=>obtain⟨h1,ti,h2,h3,h4,h5,h6⟩:=h;exact⟨h1,ti,h2,h3,h4,h5,h6.frame (hw rfl) (λ_ _ _ _ _ _ _ h=>h)⟩
 |i=>exact h
 |b=>exact h
 |s=>exact h
theorem pS.frame{E:Tab}{w w':bL}{c c':e_}{nm:aF}{o:Obj}(h:pS E w c nm o)(hw:∀b,c.K b->w'.heap[b]? =w.heap[b]?)(hK:∀b,c.K b->c'.K b)
  (hf:∀b,fM c nm o b->w'.heap[b]? =w.heap[b]?) (hP:c'.P nm=c.P nm/\c'.G nm=c.G nm)
  (hPs:∀xs,o= .box xs->∀a∈xs,∀n∈bS a,c'.P n=c.P n/\(zD n=ak->c'.G n=c.G n)):pS E w' c' nm o:=by
 cases o with
 |dead=>trivial
 |box xs=>
  obtain⟨vals,h1,h2,h3⟩:=h;refine⟨vals, ?_,h2,λj a hj=> ?_⟩
  ·rw[hP.1];exact h1.frame (hf _ rfl)
  ·obtain⟨u,hu,hv⟩:=h3 j a hj;exact⟨u,hu,hv.py hw hK (hPs xs rfl a (aR hj))⟩
 |oa cs=>show FB E w' c'.K (c'.P nm).blk cs;rw[hP.1];exact FB.frame h hw hK
 |fU e xs=>
  obtain⟨h1,h2,h3⟩:=h;refine⟨?_, ?_, ?_⟩
  ·rw[hP.1];exact h1.frame hw hK
  ·rw[hP.1];exact h2
  ·rw[hP.1];exact h3
 |row e ex xs=>
  obtain⟨h1,h2,h3⟩:=h;refine⟨by rw[hP.1];exact h1, ?_,by rw[hP.1,hP.2];exact h3⟩
  rw[hP.1,hP.2];refine h2.frame (λhn=>hf _ (.inl ⟨hn,rfl⟩)) (λi j y x u hi hj hr=> ?_);by_cases hx:ex=ai
  ·rw[bz hx]at hr⊢;exact hr.frame (λhl hn=>hf _ (.inr ⟨hx,i,j,⟨y,x,hi,hj,hl⟩,hn,rfl⟩))
  ·rw[bH hx]at hr⊢;exact hr.frame hw hK
end Go.FG

namespace Go.FG
theorem ub(s:St)(k:aF)(c:eU):pP s k c k=c:=by simp[pP]
theorem zU(s:St){k n:aF}(c:eU)(h:n≠k):pP s k c n=s n:=by
 have:bD n k=false:=by
  cases hb:bD n k with
  |false=>rfl
  |true=>exact cK (aU hb) h
 simp[pP,this]
theorem sa(n m:aF):qu n≠c9 m:=by unfold qu c9;omega
theorem mv(n m:aF):c9 n≠qu m:=by unfold qu c9;omega
theorem HB{n m:aF}(h:qu n=qu m):n=m:=by unfold qu at h;omega
theorem jZ{n m:aF}(h:c9 n=c9 m):n=m:=by unfold c9 at h;omega
theorem JY(s:St)(d:aF)(c:eU)(m:aF):pP s (qu d) c (c9 m)=s (c9 m):=zU s c (mv m d)
theorem qb(s:St)(n:aF)(c:eU)(m:aF):pP s (c9 n) c (c9 m)=if m=n then c else s (c9 m):=by
 by_cases h:m=n
 ·subst h;simp[ub]
 ·rw[bH h];exact zU s c (λe=>h (jZ e))
theorem jr(s:St)(n:aF)(c:eU)(m:aF):slot (pP s (c9 n) c) m=slot s m:=by unfold slot;rw[zU s c (sa m n)]
theorem yr(s:St)(d:aF)(v:SV)(m:aF):slot (pP s (qu d) (.v v)) m=if m=d then v else slot s m:=by
 by_cases h:m=d
 ·subst h;simp[slot,ub]
 ·rw[bH h];unfold slot;rw[zU s _ (λe=>h (HB e))]
theorem Qj(s:St)(l r:aA (aF×eU)):wr s (l++r)=wr (wr s l) r:=by
 induction l generalizing s with
 |nil=>rfl
 |cons a l ih=>obtain⟨k,c⟩:=a;exact ih _
def Rd.val{α:Type}(m:Rd α)(σ:St):az α:=(m.run σ []).map (·.1)
theorem lx{α:Type}(m:Rd α)(σ:St):∀l,(m.run σ l).map (·.1)=m.val σ:=by
 induction m with
 |ret a=>intro l;rfl
 |fail=>intro l;rfl
 |get k f ih=>intro l;simp only[Rd.run,Rd.val];rw[ih,ih]
theorem Rd.L9{α:Type}{m:Rd α}{σ:St}{l l':aA aF}{a:α}(h:m.run σ l=ah (a,l')):m.val σ=ah a:=by rw[<-lx m σ l,h];rfl
@[simp] theorem Rd.ann {α:Type} (a:α) (σ:St):(Rd.ret a).val σ=some a:=rfl
@[simp] theorem Rd.amo {α:Type} (σ:St):(Rd.fail:Rd α).val σ=none:=rfl
@[simp] theorem Rd.BG {α:Type} (k:Nat) (f:eU->Rd α) (σ:St):(Rd.get k f).val σ=(f (σ k)).val σ:=by
 simp only[Rd.val,Rd.run];exact(lx (f (σ k)) σ [k])
@[simp] theorem Rd.VT {α β:Type} (m:Rd α) (f:α->Rd β) (σ:St):(m.bind f).val σ=(m.val σ).bind λa=>(f a).val σ:=by
 induction m with
 |ret a=>rfl
 |fail=>rfl
 |get k g ih=>simp only[Rd.bind,Rd.BG];exact ih _
theorem Rd.bind_some{α β:Type}{m:Rd α}{f:α->Rd β}{σ:St}{b:β}(h:(m.bind f).val σ=ah b):∃a,m.val σ=ah a/\(f a).val σ=ah b:=by rw[Rd.VT,Option.bind_eq_some_iff]at h;exact h
theorem cS{α:Type}{b:aX}{m:Rd α}{σ:St}{a:α}(h:(bif b then m else Rd.fail).val σ=ah a):b=ai/\m.val σ=ah a:=by
 cases b with
 |true=>exact⟨rfl,h⟩
 |false=>simp at h
def j_(Ch:aF->Prop)(σ:St)(c:e_)(b:aF):Prop:=∃nm o,Ch nm/\σ (c9 nm)= .o o/\fM c nm o b
theorem j_.own{Ch:aF->Prop}{σ:St}{c:e_}{b:aF}(h:j_ Ch σ c b):wI σ c b:=by obtain⟨nm,o,_,h1,h2⟩:=h;exact⟨nm,o,h1,h2⟩
theorem mq{c c':e_}{nm:aF}{o:Obj}(h:c'.P nm=c.P nm/\c'.G nm=c.G nm)(b:aF):fM c' nm o b=fM c nm o b:=by cases o<;>simp only[fM,h.1,h.2]
theorem Ok.wY{E:Tab}{σ σ':St}{w w':bL}{c c':e_}(h:Ok E σ w c)(Ch:aF->Prop)
  (hσ:∀nm,¬Ch nm->σ' (c9 nm)=σ (c9 nm)) (iA:∀nm,σ (c9 nm)≠ .j8->σ' (c9 nm)≠ .j8) (hA:q_ σ c c') (hAG:∀nm,¬Ch nm->σ (c9 nm)≠ .j8->c'.G nm=c.G nm)
  (hW:∀b,b<w.heap.size->¬j_ Ch σ c b->w'.heap[b]? =w.heap[b]?) (gi:w.heap.size<=w'.heap.size)
  (hK:∀b,c.K b->c'.K b) (Wq:∀b,c'.K b->c.K b\/j_ Ch σ c b\/w.heap.size<=b) (G4:∀b,c'.K b->b<w'.heap.size)
  (mY:∀nm o,Ch nm->σ' (c9 nm)= .o o->pS E w' c' nm o)
  (pW:∀nm o b,Ch nm->σ' (c9 nm)= .o o->fM c' nm o b->(j_ Ch σ c b\/w.heap.size<=b)/\¬c'.K b)
  (S3:∀nm o xO o' b,Ch nm->Ch xO->σ' (c9 nm)= .o o->σ' (c9 xO)= .o o'->fM c' nm o b->fM c' xO o' b->nm=xO)
  (Jc:∀nm xs,Ch nm->σ' (c9 nm)= .o (.box xs)->∀a∈xs,jh σ' a)
  (Pw:w'.os=w.os) (S4:w'.tape=w.tape) (afl:w'.output=w.output):Ok E σ' w' c'/\oC σ c w σ' c' w':=by
 have NP:∀nm o b,¬Ch nm->σ (c9 nm)= .o o->fM c nm o b->¬j_ Ch σ c b:=by intro nm o b hc ho hf ⟨iG,o2,hc2,ho2,hf2⟩;exact hc (h.sep nm o iG o2 b ho ho2 hf hf2▸hc2)
 have agr:∀nm o,¬Ch nm->σ' (c9 nm)= .o o->σ (c9 nm)= .o o/\(c'.P nm=c.P nm/\c'.G nm=c.G nm):=by intro nm o hc ho;rw[hσ nm hc]at ho;exact⟨ho,(hA nm (.inl (by rw[ho];simp))).1,hAG nm hc (by rw[ho];simp)⟩
 have ajT:∀b,c.K b->w'.heap[b]? =w.heap[b]? :=λb hb=>hW b (h.lt b hb) (λhi=>h.Jz hi.own hb);have lt:∀nm o b,σ (c9 nm)= .o o->fM c nm o b->b<w.heap.size:=λnm o b ho hf=>wI.lt h ⟨nm,o,ho,hf⟩;refine⟨⟨?_, ?_, ?_,G4, ?_⟩,⟨Pw,S4,afl,gi,hK, ?_, ?_, ?_⟩⟩
 ·intro nm o ho;by_cases hc:Ch nm
  ·exact mY nm o hc ho
  ·obtain⟨vu,ha⟩:=agr nm o hc ho;refine(h.obj nm o vu).frame ajT hK (λb hb=>hW b (lt nm o b vu hb) (NP nm o b hc vu hb)) ha ?_;intro xs hx a hm n hn;exact hA n (.inl (h.kn nm xs (hx▸vu) a hm n hn))
 ·intro nm o xO o' b ho vu hf vp;by_cases hc:Ch nm
  ·by_cases I7:Ch xO
   ·exact S3 nm o xO o' b hc I7 ho vu hf vp
   ·obtain⟨h1,ha⟩:=agr xO o' I7 vu;rw[mq ha]at vp;rcases(pW nm o b hc ho hf).1 with hi|hi
    ·exact cK hi (NP xO o' b I7 h1 vp)
    ·have:=lt xO o' b h1 vp;omega
  ·obtain⟨h1,ha⟩:=agr nm o hc ho;rw[mq ha]at hf;by_cases I7:Ch xO
   ·rcases(pW xO o' b I7 vu vp).1 with hi|hi
    ·exact cK hi (NP nm o b hc h1 hf)
    ·have:=lt nm o b h1 hf;omega
   ·obtain⟨h2,ha'⟩:=agr xO o' I7 vu;rw[mq ha']at vp;exact h.sep nm o xO o' b h1 h2 hf vp
 ·intro nm o b ho hf;by_cases hc:Ch nm
  ·exact(pW nm o b hc ho hf).2
  ·obtain⟨h1,ha⟩:=agr nm o hc ho;rw[mq ha]at hf;intro hk;rcases Wq b hk with h2|h2|h2
   ·exact h.kk nm o b h1 hf h2
   ·exact NP nm o b hc h1 hf h2
   ·have:=lt nm o b h1 hf;omega
 ·intro nm xs ho a hm;by_cases hc:Ch nm
  ·exact Jc nm xs hc ho a hm
  ·obtain⟨h1,_⟩:=agr nm _ hc ho;intro n hn;exact iA n (h.kn nm xs h1 a hm n hn)
 ·intro b hb hn;exact hW b hb (λhi=>hn hi.own)
 ·rintro b ⟨nm,o,ho,hf⟩;by_cases hc:Ch nm
  ·exact(pW nm o b hc ho hf).1.imp j_.own id
  ·obtain⟨h1,ha⟩:=agr nm o hc ho;rw[mq ha]at hf;exact .inl ⟨nm,o,h1,hf⟩
 ·intro b hb;rcases Wq b hb with h2|h2|h2
  ·exact .inl h2
  ·exact .inr (.inl h2.own)
  ·exact .inr (.inr h2)
theorem Ok.change{E:Tab}{σ σ':St}{w w':bL}{c c':e_}(h:Ok E σ w c)(Ch:aF->Prop)
  (hσ:∀nm,¬Ch nm->σ' (c9 nm)=σ (c9 nm)) (iA:∀nm,σ (c9 nm)≠ .j8->σ' (c9 nm)≠ .j8) (hA:jF σ c c')
  (hW:∀b,b<w.heap.size->¬j_ Ch σ c b->w'.heap[b]? =w.heap[b]?) (gi:w.heap.size<=w'.heap.size)
  (hK:∀b,c.K b->c'.K b) (Wq:∀b,c'.K b->c.K b\/j_ Ch σ c b\/w.heap.size<=b) (G4:∀b,c'.K b->b<w'.heap.size)
  (mY:∀nm o,Ch nm->σ' (c9 nm)= .o o->pS E w' c' nm o)
  (pW:∀nm o b,Ch nm->σ' (c9 nm)= .o o->fM c' nm o b->(j_ Ch σ c b\/w.heap.size<=b)/\¬c'.K b)
  (S3:∀nm o xO o' b,Ch nm->Ch xO->σ' (c9 nm)= .o o->σ' (c9 xO)= .o o'->fM c' nm o b->fM c' xO o' b->nm=xO)
  (Jc:∀nm xs,Ch nm->σ' (c9 nm)= .o (.box xs)->∀a∈xs,jh σ' a)
  (Pw:w'.os=w.os) (S4:w'.tape=w.tape) (afl:w'.output=w.output):Ok E σ' w' c'/\oC σ c w σ' c' w':=
 h.wY Ch hσ iA hA.w (λnm _ hn=>(hA nm (.inl hn)).2) hW gi hK Wq G4 mY pW S3 Jc Pw S4 afl
theorem Ok.slot{E:Tab}{σ σ':St}{w:bL}{c:e_}(h:Ok E σ w c)(hσ:∀nm,σ' (c9 nm)=σ (c9 nm)):Ok E σ' w c/\oC σ c w σ' c w:=by
 refine⟨⟨λnm o ho=>h.obj nm o (hσ nm▸ho),λnm o xO o' b h1 h2=>h.sep nm o xO o' b (hσ nm▸h1) (hσ xO▸h2),λnm o b h1=>h.kk nm o b (hσ nm▸h1),h.lt,λnm xs ho a hm n hn=>by rw[hσ];exact h.kn nm xs (hσ nm▸ho) a hm n hn⟩,
  ⟨rfl,rfl,rfl,cG _,λ_ h=>h,λ_ _ _=>rfl,λb ⟨nm,o,ho,hf⟩=> .inl ⟨nm,o,hσ nm▸ho,hf⟩,λ_ h=> .inl h⟩⟩
theorem DW(a:Act)(d:aF)(v:bk)(h:d<a.tmps.size):(a.put (ah d) v).eval (.tmp d)=v:=by simp[Wb,H5,h]
theorem IL(a:Act)(d n:aF)(v:bk)(h:n≠d):(a.put (ah d) v).eval (.tmp n)=a.eval (.tmp n):=by simp only[Wb,H5,eP,ot];rw[bH (λe=>h e.symm)]
theorem fF.wY{E:Tab}{σ σ':St}{a:Act}{w w':bL}{c c':e_}(h:fF E σ a w c)(cg:Ok E σ w c)(hG:oC σ c w σ' c' w')(hA:q_ σ c c')(iA:∀nm,σ (c9 nm)≠ .j8->σ' (c9 nm)≠ .j8)
  (o:fD) (v:bk) (hs:∀n,o.dst≠ah n->slot σ' n=slot σ n) (hd:∀d,o.dst=ah d->d<a.tmps.size/\jk E w' c' (slot σ' d) v/\mR σ' (slot σ' d)):fF E σ' (a.put o.dst v) w' c':=by
 have keep:∀n,jk E w' c' (slot σ n) (a.eval (.tmp n)):=λn=>(h.ok n).py (hG.aaq cg) hG.K (λm hm=>hA m (.inl (h.kn n m hm)));have ab2:∀n,mR σ' (slot σ n):=λn m hm=>iA m (h.kn n m hm);cases ho:o.dst with
 |none=>
  refine⟨λn=> ?_,λn=> ?_,h.df⟩
  ·rw[hs n (by simp[ho])];exact keep n
  ·rw[hs n (by simp[ho])];exact ab2 n
 |some d=>
  obtain⟨h1,h2,h3⟩:=hd d ho;refine⟨λn=> ?_,λn=> ?_,h.df⟩
  ·by_cases hn:n=d
   ·subst hn;rw[DW a n v h1];exact h2
   ·rw[IL a d n v hn,hs n (by rw[ho];simpa using λe=>hn e.symm)];exact keep n
  ·by_cases hn:n=d
   ·subst hn;exact h3
   ·rw[hs n (by rw[ho];simpa using λe=>hn e.symm)];exact ab2 n
theorem fF.change{E:Tab}{σ σ':St}{a:Act}{w w':bL}{c c':e_}(h:fF E σ a w c)(cg:Ok E σ w c)(hG:oC σ c w σ' c' w')(hA:jF σ c c')(iA:∀nm,σ (c9 nm)≠ .j8->σ' (c9 nm)≠ .j8)
  (o:fD) (v:bk) (hs:∀n,o.dst≠ah n->slot σ' n=slot σ n) (hd:∀d,o.dst=ah d->d<a.tmps.size/\jk E w' c' (slot σ' d) v/\mR σ' (slot σ' d)):fF E σ' (a.put o.dst v) w' c':=
 h.wY cg hG hA.w iA o v hs hd
theorem sb(σ:St)(o:fD)(v:SV):(∀n,o.dst≠ah n->slot (wr σ (dw o v)) n=slot σ n)/\(∀d,o.dst=ah d->slot (wr σ (dw o v)) d=v)/\∀nm,wr σ (dw o v) (c9 nm)=σ (c9 nm):=by
 cases ho:o.dst with
 |none=>simp[dw,ho,wr]
 |some d=>
  refine⟨λn hn=> ?_,λd' hd=> ?_,λnm=> ?_⟩
  ·simp only[dw,ho,wr];rw[yr,bH (by rintro rfl;exact hn rfl)]
  ·cases hd;simp only[dw,ho,wr];rw[yr,bz rfl]
  ·simp only[dw,ho,wr];exact JY _ _ _ _
end Go.FG

namespace Go.FG
def iN:Ck->bk
 | .i k=> .int k 0| .b=> .bool ak| .s=> .string ⟨#[]⟩| .l _=> .slice aj 0 0| .o=> .nilIface
def lZ:AV->bk
 | .i k n=> .int k n| .b x=> .bool x| .s x=> .string x|_=> .nilIface
structure eH (P:c6) (E:Tab):Prop where
 info:∀t ti,E.ty t=ah ti->∃inf,P.info? t=ah inf/\inf.size=ti.ks.length/\inf.bytes=ti.bytes/\0<ti.ks.length/\
  (Lu ti.ks=ai->∃z,inf.zero=ah z/\z.cells=(ti.ks.map iN).toArray/\(ti.agg=ai->z= .agg (ti.ks.map iN).toArray))
 desc:∀t ti,E.ty t=ah ti->∃d,P.underlying t=ah d/\
  (ti.agg=ai->∃fs,d= .struct fs/\∀f o n,E.fo t f=ah (o,n)->∃fd,fs[f]? =ah fd/\fd.offset=o/\(P.info? fd.type).map (·.size)=ah n/\n≠0/\o+n<=ti.ks.length)/\
  (ti.agg=ak->(∃k,ti.ks=[.i k]/\d= .int k)\/(ti.ks=[.b]/\d= .bool)\/(ti.ks=[.s]/\d= .string)\/(∃e,ti.ks=[.l e]/\d= .slice e)\/
   (ti.ks=[.o]/\(match d with| .struct _| .array _ _=>ak|_=>ai)=ai))
 fo:∀t f o n,E.fo t f=ah (o,n)->∃ti,E.ty t=ah ti/\ti.agg=ai
 pl:∀t ti,E.ty t=ah ti->ti.agg=ai->∀fs,P.underlying t=ah (.struct fs)->∃pl,fs.toList.mapM (λf=>(P.info? f.type).map λi=>(f.offset,i.size))=ah pl/\∀f o n,E.fo t f=ah (o,n)->pl[f]? =ah (o,n)
 eq:∀t ti,mK t E.eqs=ai->E.ty t=ah ti->∀(w:bL) (x y:dz) (xs ys:aA AV) (r:aX),Xv xs ys=ah r->xs.map Hb=ti.ks->ys.map Hb=ti.ks->
  (do eqGuard .eql t x y (.agg (xs.map lZ).toArray) (.agg (ys.map lZ).toArray);binOp .eql t (.agg (xs.map lZ).toArray) (.agg (ys.map lZ).toArray)).run P w= .ok (.bool r) w/\
  (do eqGuard .neq t x y (.agg (xs.map lZ).toArray) (.agg (ys.map lZ).toArray);binOp .neq t (.agg (xs.map lZ).toArray) (.agg (ys.map lZ).toArray)).run P w= .ok (.bool !r) w
 fl:∀t f,E.SI t f=ai->∀fs fd,P.underlying t=ah (.struct fs)->fs[f]? =ah fd->∀w,(Go.isAgg fd.type).run P w= .ok ak w
theorem EO{v:bk}(h:v.oneCell'=ai):v.cells= #[v]:=by cases v<;>simp_all [Value.cells,Value.oneCell']
theorem eM.one{E:Tab}{w:bL}{c:e_}{a:AV}{v:bk}(h:eM E w c a v):v.oneCell'=true:=by
 cases a with
 |i=>cases h;rfl
 |b=>cases h;rfl
 |s=>cases h.1;rfl
 |nl=>cases h;rfl
 |sh e xs=>cases h<;>rfl
 |own n=>cases h;unfold lT;split<;>rfl
 |vw n lo hi=>
  obtain⟨_,_,h1,h2⟩:=h;by_cases hn:(c.P n).nil=ai
  ·rw[h1 hn];rfl
  ·rcases h2 (by simpa using hn)with ⟨_,h⟩|⟨_,o,_,h⟩<;>rw[h]<;>rfl
 |bp n j=>cases h;rfl
 |rp n i j=>rw[h.2];rfl
 |sp e xs i j=>obtain⟨_,_,_,_,_,_,_,h⟩:=h;rw[h];rfl
 |inn n i j=>rw[h.1.2];unfold lT;split<;>rfl
 |ip n i j i2 j2=>rw[h.1.2.2];rfl
 |fn f iX=>obtain⟨ps,h,_⟩:=h;rw[h];rfl
 |fp cs j=>obtain⟨b,h,_⟩:=h;rw[h];rfl
section
variable {P:c6} (w:bL)
theorem Addr.n9(b o i:aF):(ad b o).add i=ad b (o+i):=by unfold Addr.add ad;split<;>simp_all
theorem Eb(b o:aF):∀(vs:aA bk) (i:aF) (w:bL) (cur:dv bk),nZ w b cur->o+i+vs.length<=cur.size->(∀v∈vs,v.oneCell'=ai)->
  (storeCells (ad b o) vs i).run P w= .ok () (w.setRow b (cur.toList.take (o+i)++vs++cur.toList.drop (o+i+vs.length)).toArray):=by
 intro vs;induction vs with
 |nil=>intro i w cur hb _ _;obtain⟨t,fr,hg,hf⟩:=hb;simp only[storeCells,dp,jS,yT,List.take_append_drop,uf];rw[setRow_self w b cur t fr hg];rfl
 |cons v rest ih=>
  intro i w cur hb hl h1;have hi:o+i<cur.size:=by simp at hl;omega
  have arS:=hb.free hi;obtain⟨t,fr,hg,hf⟩:=hb;have hcell:w.cell? (ad b (o+i))=ah cur[o+i]:=by simp[World.cell?,hg,hi]
  have Lb:(store ((ad b o).add i) v).run P w= .ok () (w.setRow b (cur.setIfInBounds (o+i) v)):=by rw[Addr.n9,run_store P w _ v _ (h1 v (by simp)),hcell];simp[arS,setCell_eq_setRow w b (o+i) cur t fr v hg]
  have Qz:nZ (w.setRow b (cur.setIfInBounds (o+i) v)) b (cur.setIfInBounds (o+i) v):=⟨t,fr,setRow_heap w b cur _ t fr hg,by simpa using hf⟩
  have ih':=ih (i+1) (w.setRow b (cur.setIfInBounds (o+i) v)) (cur.setIfInBounds (o+i) v) Qz (by simp at hl⊢;omega) (λx hx=>h1 x (by simp[hx]));simp only[storeCells,cm,Lb,bG,ih',setRow_setRow];congr 3;have e:=list_seg_step cur.toList (o+i) v rest (by simp at hl⊢;omega);simpa [Array.toList_setIfInBounds,l_]using e
def eh(cur:dv bk)(o:aF)(vs:aA bk):dv bk:=(cur.toList.take o++vs++cur.toList.drop (o+vs.length)).toArray
theorem fj{cur:dv bk}{o:aF}{vs:aA bk}(h:o+vs.length<=cur.size):(eh cur o vs).size=cur.size:=by simp[eh];omega
theorem gq{cur:dv bk}{o:aF}{vs:aA bk}(h:o+vs.length<=cur.size)(k:aF):
  (eh cur o vs)[k]? =if o<=k/\k<o+vs.length then vs[k-o]? else cur[k]? :=by
 simp only[eh,ij];by_cases h1:k<o
 ·rw[bH (by omega),cB,dI (by simp;omega),ea,bz h1];simp
 ·by_cases h2:k<o+vs.length
  ·rw[bz ⟨by omega,h2⟩,cB,db (by simp;omega),dI (by simp;omega)];congr 1;simp;omega
  ·rw[bH (by omega),cB,db (by simp;omega),db (by simp;omega),dR];simp only[cZ];congr 1;simp;omega
theorem nM{b o:aF}{vs:aA bk}{cur:dv bk}(hb:nZ w b cur)(hl:o+vs.length<=cur.size)(h1:∀v∈vs,v.oneCell'=ai):
  (storeCells (ad b o) vs).run P w= .ok () (w.setRow b (eh cur o vs)):=by have:=Eb (P:=P) b o vs 0 w cur hb (by simpa using hl) h1;simpa [eh]using this
theorem nZ.setRow{w:bL}{b:aF}{cur new:dv bk}(h:nZ w b cur)(hs:new.size=cur.size):nZ (w.setRow b new) b new:=by obtain⟨t,fr,hg,hf⟩:=h;exact⟨t,fr,setRow_heap w b cur new t fr hg,by rw[hs];exact hf⟩
theorem nZ.alloc(w:bL)(cs:dv bk)(t:TypeId):nZ (w.alloc (.cells cs t)) w.heap.size cs:=
 ⟨t,(0,0),heap_alloc_new w _,λo _=>by simp⟩
theorem xZ{b o:aF}{cs:aA bk}(h:∀j v,cs[j]? =ah v->w.cell? (ad b (o+j))=ah v):(loadCells (ad b o) cs.length).run P w= .ok cs.toArray w:=
 run_loadCells_list w (ad b o) cs (λj v hj=>by rw[Addr.n9];exact h j v hj)
theorem C5{E:Tab}(hE:eH P E){t:aF}{ti:TI}(ht:E.ty t=ah ti){b o:aF}{cs:aA bk}(hl:cs.length=ti.ks.length)(h:∀j v,cs[j]? =ah v->w.cell? (ad b (o+j))=ah v):
  (yQ t (.pointer (ah (ad b o)))).run P w= .ok (if ti.agg=ai then .agg cs.toArray else cs.headD .nilIface) w:=by
 obtain⟨inf,hi,gi,_,lj,_⟩:=hE.info t ti ht;obtain⟨d,hd,ha,hn⟩:=hE.desc t ti ht;cases uC:ti.agg with
 |true=>obtain⟨fs,rfl,_⟩:=ha uC;have hr:=xZ (P:=P) w (b:=b) (o:=o) h;simp only[yQ,uS,loadVar,isAgg,cm,run_underlying hd,cU,bG,if_true,sizeOf,typeInfo,program,nv,hi,gi,<-hl,hr]
 |false=>
  have xI:∃k,ti.ks=[k]:=by rcases hn uC with ⟨k,h,_⟩|⟨h,_⟩|⟨h,_⟩|⟨e,h,_⟩|⟨h,_⟩<;>exact⟨_,h⟩
  obtain⟨k,hk⟩:=xI;rw[hk]at hl;obtain⟨v,rfl⟩:=gZ.1 hl;have hc:=h 0 v rfl;simp only[yT]at hc;have azl:(match d with| .struct _| .array _ _=>ai|_=>ak)=false:=by
   rcases hn uC with ⟨k,_,rfl⟩|⟨_,rfl⟩|⟨_,rfl⟩|⟨e,_,rfl⟩|⟨_,h⟩
   ·rfl
   ·rfl
   ·rfl
   ·rfl
   ·cases d<;>simp_all
  have arA:(isAgg t).run P w= .ok ak w:=by simp only[isAgg,cm,run_underlying hd,bG];cases d<;>simp_all
  simp only[yQ,uS,loadVar,cm,cU,bG,arA,dy,if_false,run_load,hc,List.headD]
theorem JP{E:Tab}(hE:eH P E){t:aF}{ti:TI}(ht:E.ty t=ah ti){b o:aF}{v:bk}{cur:dv bk}(hl:v.cells.size=ti.ks.length)(hb:nZ w b cur)(hf:o+v.cells.size<=cur.size)(h1:∀u∈v.cells.toList,u.oneCell'=ai):
  (W0 t (.pointer (ah (ad b o))) v).run P w= .ok () (w.setRow b (eh cur o v.cells.toList)):=by obtain⟨inf,hi,gi,_⟩:=hE.info t ti ht;have hr:=nM (P:=P) w hb (o:=o) (vs:=v.cells.toList) (by simpa using hf) h1;simp only[W0,uS,storeVar,cm,cU,bG,sizeOf,typeInfo,program,nv,hi,gi,hl,ne_eq,not_true_eq_false,if_false,hr]
theorem P8{E:Tab}(hE:eH P E){t:aF}{ti:TI}(ht:E.ty t=ah ti)(ho:Lu ti.ks=ai):
  (Instr.alloc t ai (.tuple #[])).run P w= .ok (.pointer (ah (ad w.heap.size 0))) (w.alloc (.cells (ti.ks.map iN).toArray t)):=by obtain⟨inf,hi,gi,_,_,hz⟩:=hE.info t ti ht;obtain⟨z,J8,D6,_⟩:=hz ho;simp only[Instr.alloc,cm,zeroValue,typeInfo,program,nv,hi,bG,cU,J8,newVar,newRow,newObj,D6];rfl
theorem U2(t:aF)(v:bk):(Instr.box t v).run P w= .ok (.pointer (ah (ad w.heap.size 0))) (w.alloc (.cells v.cells t)):=by simp only[Instr.box,cm,newVar,newRow,newObj,nv,bG,cU];rfl
theorem JL{E:Tab}(hE:eH P E){t f off n:aF}(hf:E.fo t f=ah (off,n))(b o:aF):
  (WY t (.pointer (ah (ad b o))) f).run P w= .ok (.pointer (ah (ad b (o+off)))) w:=by
 obtain⟨ti,ht,uC⟩:=hE.fo t f off n hf;obtain⟨d,hd,ha,_⟩:=hE.desc t ti ht;obtain⟨fs,rfl,K7⟩:=ha uC;obtain⟨fd,h1,h2,h3,h4,_⟩:=K7 f off n hf;cases hq:P.info? fd.type with
 |none=>simp[hq]at h3
 |some inf=>
  have hs:inf.size=n:=by simpa [hq]using h3
  have iA:¬inf.size=0:=by omega
  simp only[WY,cm,run_underlying hd,bG,h1,uS,cU,fieldPlace,sizeOf,typeInfo,program,nv,hq,bH iA,ni,Addr.n9,h2]
theorem pk{E:Tab}(hE:eH P E){t e:aF}{ti:TI}(ht:E.ty t=ah ti)(uC:ti.agg=ak)(hk:ti.ks=[.l e]):P.underlying t=ah (.slice e):=by obtain⟨d,hd,_,hn⟩:=hE.desc t ti ht;rcases hn uC with ⟨k,h,_⟩|⟨h,_⟩|⟨h,_⟩|⟨e',h,rfl⟩|⟨h,_⟩<;>rw[hk]at h<;>simp_all
theorem JM{E:Tab}(hE:eH P E){t e:aF}{te:TI}(hu:P.underlying t=ah (.slice e))(he:E.ty e=ah te)(b o n c:aF)(k:nu)(i:aw)(h0:0<=i)(h1:i<n):
  (WZ t (.slice (ah (ad b o)) n c) (.int k i)).run P w= .ok (.pointer (ah (ad b (o+i.toNat*te.ks.length)))) w:=by obtain⟨inf,hi,gi,_⟩:=hE.info e te he;simp only[WZ,asIntOf,cm,cU,bG,run_underlying hu,h0,h1,and_self,if_true,sizeOf,typeInfo,program,nv,hi,gi,Addr.n9]
end
end Go.FG

namespace Go.FG
section
variable {P:c6} {E:fS} {σ:St} {a:Act} {w:bL} {c:e_}
theorem mw(dL:fF E σ a w c){x:dz}{v:SV}(h:(Hp x).val σ=ah v):jk E w c v (a.eval x)/\mR σ v:=by
 cases x with
 |tmp t=>
  simp only[Hp,Rd.BG]at h;cases hc:σ (qu t)with
  |v x=>rw[hc]at h;obtain rfl:=aJ h;have h1:=dL.ok t;have h2:=dL.kn t;simp only[slot,hc]at h1 h2;exact⟨h1,h2⟩
  |o x=>rw[hc]at h;simp at h;subst h;exact⟨trivial,λn hn=>by simp[cQ]at hn⟩
  |j8=>rw[hc]at h;simp at h;subst h;exact⟨trivial,λn hn=>by simp[cQ]at hn⟩
 |const v'=>
  obtain rfl:=aJ h;refine⟨?_, ?_⟩
  ·show jk E w c (cst v') v';unfold cst;split;case h_3 x=>
    cases hd:fL x.size 4611686018427387904 with
    |true=>exact⟨rfl,cO hd⟩
    |false=>exact trivial
   all_goals first|trivial|rfl
  ·unfold cst;intro n hn;split at hn;case h_3 x=>
    cases hd:fL x.size 4611686018427387904 with
    |true=>simp[hd,cQ,bS]at hn
    |false=>simp[hd,cQ]at hn
   all_goals simp[cQ,bS]at hn
 |global g=>simp[Hp]at h
 |func f=>obtain rfl:=aJ h;exact⟨⟨#[],rfl,rfl,λq cs hq=>by simp at hq⟩,λn hn=>by simp[cQ,bS]at hn⟩
theorem i_(dL:fF E σ a w c){x:dz}{v:AV}(h:(rW x).val σ=ah v):eM E w c v (a.eval x)/\jh σ v:=by
 obtain⟨s,h1,h2⟩:=Rd.bind_some h;obtain⟨h3,h4⟩:=mw dL h1;split at h2
 ·obtain rfl:=aJ h2;exact⟨h3,λn hn=>h4 n (by simpa [cQ]using hn)⟩
 ·simp at h2
theorem pZ(dL:fF E σ a w c){x:dz}{k:nu}{n:aw}(h:(CM x).val σ=ah (k,n)):a.eval x= .int k n:=by
 obtain⟨s,h1,h2⟩:=Rd.bind_some h;obtain⟨h3,_⟩:=i_ dL h1;split at h2
 ·simp at h2;obtain⟨rfl,rfl⟩:=h2;exact h3
 ·simp at h2
theorem dA{nm:aF}{x:Obj}(h:(jO nm).val σ=ah x):σ (c9 nm)= .o x:=by
 simp only[jO,Rd.BG]at h;split at h
 ·rename_i y hy;simp at h;subst h;exact hy
 ·simp at h
theorem dX{t:aF}{ti:TI}(h:(sS E t).val σ=ah ti):E.ty t=ah ti:=by
 unfold sS at h;split at h
 ·simp at h;subst h;assumption
 ·simp at h
theorem kJ{nm:aF}{u:Unit}(h:(fresh nm).val σ=ah u):σ (c9 nm)= .j8/\nm<900000000:=by
 simp only[fresh,Rd.BG]at h;split at h
 ·rename_i hy;obtain⟨h1,_⟩:=cS h;exact⟨hy,by have:=cO h1;omega⟩
 ·simp at h
def gY(P:c6)(E:fS)(σ:St)(a:Act)(w:bL)(c:e_)(o:fD)(ws:aA (aF×eU)):Prop:=
 ∀(K:Act->bL->Prop) (Q:Exit->Act->bL->Prop),
  (∀v w' c',Ok E (wr σ ws) w' c'->fF E (wr σ ws) (a.put o.dst v) w' c'->oC σ c w (wr σ ws) c' w'->q_ σ c c'->K (a.put o.dst v) w')->o.wp P a w K Q
theorem yA{o:fD}{v:bk}{w':bL}{K:Act->bL->Prop}{Q:Exit->Act->bL->Prop}(hr:(execOp a.eval o).run P w= .ok (.value v) w')(hK:K (a.put o.dst v) w'):o.wp P a w K Q:=by unfold OJ;rw[hr];exact hK
theorem Dk{o:fD}{w':bL}{K:Act->bL->Prop}{Q:Exit->Act->bL->Prop}(hr:(execOp a.eval o).run P w= .ok .skip w')(hK:K (a.put o.dst undef) w'):o.wp P a w K Q:=by unfold OJ;rw[hr];exact hK
theorem jF.refl(σ:St)(c:e_):jF σ c c:=λ_ _=>⟨rfl,rfl⟩
theorem gJ(cg:Ok E σ w c)(dL:fF E σ a w c){o:fD}(hd:∀d,o.dst=ah d->d<a.tmps.size){s:SV}{v:bk}
  (hs:jk E w c s v) (hk:mR σ s) (hr:(execOp a.eval o).run P w= .ok (.value v) w):gY P E σ a w c o (dw o s):=by
 intro K Q hK;obtain⟨s1,s2,s3⟩:=sb σ o s;obtain⟨h1,h2⟩:=cg.slot s3;refine yA hr (hK v w c h1 ?_ h2 (jF.refl _ _).w);refine dL.change cg h2 (jF.refl _ _) (λnm hn=>by rw[s3];exact hn) o v s1 (λd ho=>⟨hd d ho, ?_, ?_⟩)
 ·rw[s2 d ho];exact hs
 ·rw[s2 d ho];intro n hn;rw[s3];exact hk n hn
theorem Cs(cg:Ok E σ w c)(dL:fF E σ a w c){o:fD}(hd:∀d,o.dst=ah d->d<a.tmps.size){nm:aF}{ob:Obj}{s:SV}{v:bk}{w':bL}{p:Pl}{g:aF->aF->Pl}
  (hn:σ (c9 nm)= .j8) (jB:nm<900000000)
  (mY:∀c':e_,c'.P nm=p->c'.G nm=g->(∀b,c.K b->c'.K b)->jF σ c c'->pS E w' c' nm ob)
  (pW:∀c':e_,c'.P nm=p->c'.G nm=g->∀b,fM c' nm ob b->w.heap.size<=b)
  (Jc:∀xs,ob= .box xs->∀a∈xs,jh σ a)
  (yH:∀c':e_,c'.P nm=p->c'.G nm=g->jk E w' c' s v) (A1:∀n∈cQ s,n=nm\/σ (c9 n)≠ .j8)
  (hW:∀b,b<w.heap.size->w'.heap[b]? =w.heap[b]?) (gi:w.heap.size<=w'.heap.size) (Pw:w'.os=w.os) (XX:w'.tape=w.tape) (XR:w'.output=w.output)
  (hr:(execOp a.eval o).run P w= .ok (.value v) w'):gY P E σ a w c o ((c9 nm, .o ob)::dw o s):=by
 intro K Q hK;let c':e_:=⟨λn=>if n=nm then p else c.P n,λn=>if n=nm then g else c.G n,c.K⟩
 have hP:c'.P nm=p:=bz rfl;have hG:c'.G nm=g:=bz rfl;have hA:jF σ c c':=λm hm=>by
  have:m≠nm:=by rintro rfl;rcases hm with h|h;exact h hn;omega
  exact⟨bH this,bH this⟩
 let σ1:=pP σ (c9 nm) (.o ob);obtain⟨s1,s2,s3⟩:=sb σ1 o s;have key:∀m,wr σ1 (dw o s) (c9 m)=if m=nm then .o ob else σ (c9 m):=λm=>by rw[s3];exact qb _ _ _ _
 have iA:∀m,σ (c9 m)≠ .j8->wr σ1 (dw o s) (c9 m)≠ .j8:=λm hm=>by rw[key];split<;>simp_all
 have hh:=cg.change (σ':=wr σ1 (dw o s)) (w':=w') (c':=c') (λm=>m=nm) (λm hm=>by rw[key,bH hm]) iA hA
  (λb hb _=>hW b hb) gi (λ_ h=>h) (λ_ h=> .inl h) (λb hb=>jw (cg.lt b hb) gi)
  (λm x hm ho=>by subst hm;rw[key,bz rfl]at ho;cases ho;exact mY c' hP hG (λ_ h=>h) hA)
  (λm x b hm ho hf=>by subst hm;rw[key,bz rfl]at ho;cases ho;have:=pW c' hP hG b hf;exact⟨.inr this,λhk=>by have:=cg.lt b hk;omega⟩)
  (λm x m' x' b hm xH _ _ _ _=>by rw[hm,xH])
  (λm xs hm ho y hy n kK=>by subst hm;rw[key,bz rfl]at ho;cases ho;exact iA n (Jc xs rfl y hy n kK)) Pw XX XR
 refine yA hr (hK v w' c' hh.1 ?_ hh.2 hA.w);refine dL.change cg hh.2 hA iA o v (λn kK=>by rw[s1 n kK];exact jr _ _ _ _) (λd ho=>⟨hd d ho, ?_, ?_⟩)
 ·show jk E w' c' (slot (wr σ1 (dw o s)) d) v;rw[s2 d ho];exact yH c' hP hG
 ·show mR (wr σ1 (dw o s)) (slot (wr σ1 (dw o s)) d);rw[s2 d ho];intro n kK;rw[key];split
  ·simp
  ·rename_i h;exact(A1 n kK).resolve_left h
theorem tE(cg:Ok E σ w c)(dL:fF E σ a w c){o:fD}(hd:∀d,o.dst=ah d->d<a.tmps.size){nm:aF}{ob ob':Obj}{s:SV}{v:bk}{w':bL}
  (hn:σ (c9 nm)= .o ob) (mY:pS E w' c nm ob') (pW:∀b,fM c nm ob' b->fM c nm ob b)
  (Jc:∀xs,ob'= .box xs->∀a∈xs,jh σ a)
  (yH:jk E w' c s v) (A1:mR σ s)
  (hW:∀b,b<w.heap.size->¬fM c nm ob b->w'.heap[b]? =w.heap[b]?) (gi:w.heap.size<=w'.heap.size) (Pw:w'.os=w.os) (XX:w'.tape=w.tape) (XR:w'.output=w.output)
  (hr:(execOp a.eval o).run P w= .ok (.value v) w'\/((execOp a.eval o).run P w= .ok .skip w'/\v=undef)):gY P E σ a w c o ([(c9 nm, .o ob')]++dw o s):=by
 intro K Q hK;let σ1:=pP σ (c9 nm) (.o ob');obtain⟨s1,s2,s3⟩:=sb σ1 o s;have key:∀m,wr σ1 (dw o s) (c9 m)=if m=nm then .o ob' else σ (c9 m):=λm=>by rw[s3];exact qb _ _ _ _
 have iA:∀m,σ (c9 m)≠ .j8->wr σ1 (dw o s) (c9 m)≠ .j8:=λm hm=>by rw[key];split<;>simp_all
 have gh:∀b,fM c nm ob b->j_ (λm=>m=nm) σ c b:=λb hb=>⟨nm,ob,rfl,hn,hb⟩
 have hh:=cg.change (σ':=wr σ1 (dw o s)) (w':=w') (c':=c) (λm=>m=nm) (λm hm=>by rw[key,bH hm]) iA (jF.refl _ _)
  (λb hb XO=>hW b hb (λhf=>XO (gh b hf))) gi (λ_ h=>h) (λ_ h=> .inl h) (λb hb=>jw (cg.lt b hb) gi)
  (λm x hm ho=>by subst hm;rw[key,bz rfl]at ho;cases ho;exact mY)
  (λm x b hm ho hf=>by subst hm;rw[key,bz rfl]at ho;cases ho;exact⟨.inl (gh b (pW b hf)),cg.kk _ _ b hn (pW b hf)⟩)
  (λm x m' x' b hm xH _ _ _ _=>by rw[hm,xH])
  (λm xs hm ho y hy n kK=>by subst hm;rw[key,bz rfl]at ho;cases ho;exact iA n (Jc xs rfl y hy n kK)) Pw XX XR
 have ajo:fF E (wr σ1 (dw o s)) (a.put o.dst v) w' c:=by
  refine dL.change cg hh.2 (jF.refl _ _) iA o v (λn kK=>by rw[s1 n kK];exact jr _ _ _ _) (λd ho=>⟨hd d ho, ?_, ?_⟩)
  ·rw[s2 d ho];exact yH
  ·rw[s2 d ho];intro n kK;rw[key];split
   ·simp
   ·exact A1 n kK
 rcases hr with hr|⟨hr,rfl⟩
 ·exact yA hr (hK v w' c hh.1 ajo hh.2 (jF.refl _ _).w)
 ·exact Dk hr (hK undef w' c hh.1 ajo hh.2 (jF.refl _ _).w)
end
end Go.FG

namespace Go.FG
theorem aeN:∀{x y:Ck},ckB x y=ai->x=y:=by intro x y h;cases x<;>cases y<;>simp[ckB]at h<;>first|rfl|(subst h;rfl)|(have:=aU h;subst this;rfl)
theorem rN:∀{a b:aA Ck},qp a b=ai->a=b
 |[],[],_=>rfl
 |[],_::_,h=>by simp[qp]at h
 |_::_,[],h=>by simp[qp]at h
 |x::l,y::r,h=>by
  simp only[qp,aL]at h;rw[aeN h.1,rN h.2]
structure arf (E:fS) (w:bL) (K:aF->Prop) (b o n c e:aF) (xs:aQ) (ti:TI) (U:aF->aF->bk):Prop where
 nn:n=xs.length
 ty:E.ty e=ah ti
 cap:xs.length<=c
 mx:c<=maxLen
 kb:K b
 sh:∀y∈xs,y.map CV.kd=ti.ks
 cell:∀i j y x,xs[i]? =ah y->y[j]? =ah x->w.cell? (ad b (o+i*ti.ks.length+j))=ah (U i j)
 inn:∀i j y x,xs[i]? =ah y->y[j]? =ah x->da E w K (U i j) x
theorem da.Jq{E:fS}{w:bL}{K:aF->Prop}{b o n c e:aF}{xs:aQ}(h:da E w K (.slice (ah (ad b o)) n c) (.l e xs))(hn:0<xs.length):∃ti U,arf E w K b o n c e xs ti U:=by
 generalize hv:Value.slice (ah (ad b o)) n c=v at h;generalize hx:CV.l e xs=x at h;cases h with
 |i=>cases hx
 |b=>cases hx
 |s=>cases hx
 |nl=>cases hx;simp at hn
 |l e xs b o c ti U ht hc hm hK hs hcell gh=>cases hx;cases hv;exact⟨ti,U,rfl,ht,hc,hm,hK,hs,hcell,gh⟩
theorem KJ{E:fS}{w:bL}{c:e_}{u:bk}{x:CV}(h:da E w c.K u x):eM E w c (dec x.kd x) u:=by
 cases x with
 |i k n=>cases h;rfl
 |b=>cases h;rfl
 |s=>cases h with|s _ ho=>exact⟨rfl,ho⟩
 |l e xs=>exact h
theorem NR{E:fS}{w:bL}{c:e_}{u:bk}{x:CV}(h:da E w c.K u x):eM E w c (Zk x) u:=by
 cases x with
 |i k n=>cases h;rfl
 |b=>cases h;rfl
 |s=>cases h with|s _ ho=>exact⟨rfl,ho⟩
 |l e xs=>exact h
theorem pj{E:fS}{w:bL}{c:e_}{u:bk}{x:CV}(hl:uD x=ak)(h:Sc u x):eM E w c (dec x.kd x) u:=by
 cases x with
 |i=>exact h.1
 |b=>exact h.1
 |s=>exact h
 |l=>simp[uD]at hl
theorem PK(k:Ck)(x:CV):bS (dec k x)=[]:=by cases k<;>rfl
theorem CF(x:CV):bS (Zk x)=[]:=by cases x<;>rfl
theorem lS(xs:aQ)(i:aF):∀(ks:aA Ck) (j q:aF),(vf xs i j ks)[q]? =(ks[q]?).map λk=>dec k (ar xs i (j+q)):=by
 intro ks;induction ks with
 |nil=>intro j q;simp[vf]
 |cons k ks ih=>
  intro j q;cases q with
  |zero=>simp[vf]
  |succ q=>simp only[vf,dP,ih];congr 2;funext k;congr 2;omega
theorem IE(nm:aF)(xs:aQ)(i:aF):∀(ks:aA Ck) (j q:aF),(AX nm xs i j ks)[q]? =(ks[q]?).map λk=>match k with| .l _=>AV.inn nm i (j+q)|k=>dec k (ar xs i (j+q)):=by
 intro ks;induction ks with
 |nil=>intro j q;simp[AX]
 |cons k ks ih=>
  intro j q;cases q with
  |zero=>cases k<;>simp[AX]
  |succ q=>
   have e:j+1+q=j+(q+1):=by omega
   cases k<;>simp only[AX,dP,ih,e]
theorem fH{xs:aQ}{i j:aF}{y:aA CV}{x:CV}(hi:xs[i]? =ah y)(hj:y[j]? =ah x):ar xs i j=x:=by simp[ar,jR,hi,hj]
theorem kO(xs:aQ)(i:aF):∀(ks:aA Ck) (j:aF),(vf xs i j ks).length=ks.length:=by
 intro ks;induction ks with
 |nil=>intro j;rfl
 |cons k ks ih=>intro j;simp[vf,ih]
theorem Al(nm:aF)(xs:aQ)(i:aF):∀(ks:aA Ck) (j:aF),(AX nm xs i j ks).length=ks.length:=by
 intro ks;induction ks with
 |nil=>intro j;rfl
 |cons k ks ih=>intro j;cases k<;>simp[AX,ih]
theorem qS{ks ks2:aA Ck}{j:aF}{y:aA CV}(hy:y.map CV.kd=ks)(h:(ks.drop j).take ks2.length=ks2){q:aF}(hq:q<ks2.length):∃x,y[j+q]? =ah x/\ks2[q]? =ah x.kd:=by
 have h1:ks2[q]? =ks[j+q]? :=by rw[<-h,ea,bz hq,dR]
 rw[<-hy,bK]at h1;cases hx:y[j+q]? with
 |none=>rw[hx]at h1;simp at h1;omega
 |some x=>exact⟨x,rfl,by rw[h1,hx];rfl⟩
section
variable {P:c6} {E:fS} {σ:St} {a:Act} {w:bL} {c:e_}
theorem uL{p:Pl}{G:aF->aF->Pl}{xs:aQ}{ks:aA Ck}{i j e2:aF}(gg:jj w p xs (λi j u x=>if ai=ai then XC E w G i j u x else da E w c.K u x))(mN:∀y∈xs,y.map CV.kd=ks)(hi:i<p.n)(hk:ks[j]? =ah (.l e2)):
  ∃ys y,xs[i]? =ah y/\y[j]? =ah (.l e2 ys)/\∃u,XC E w G i j u (.l e2 ys):=by
 have mc:i<xs.length:=by rw[<-gg.n];exact hi
 have hy:xs[i]? =ah xs[i]:=by simp[mc]
 have h1:=mN xs[i] (bC mc);rw[<-h1,bK]at hk;cases hx:xs[i][j]? with
 |none=>rw[hx]at hk;cases hk
 |some x=>
  rw[hx]at hk;cases x with
  |l e ys=>
   cases hk;have jC:p.nil=false:=by
    cases hn:p.nil with
    |false=>rfl
    |true=>have:=(gg.nil hn).1;subst this;simp at mc
   obtain⟨vals,_,_,_,_,oc⟩:=gg.mem jC;obtain⟨u,_,hr⟩:=oc i _ j _ hy hx;rw[bz rfl]at hr;exact⟨ys,_,hy,hx,u,hr⟩
  |i=>cases hk
  |b=>cases hk
  |s=>cases hk
theorem iv{ks:aA Ck}(h:plain ks=ai){y:aA CV}(hy:y.map CV.kd=ks){j:aF}{x:CV}(hx:y[j]? =ah x):uD x=false:=by
 have h1:x.kd∈ks:=by rw[<-hy];exact cX.2 ⟨x,aR hx,rfl⟩
 have h2:=bu.1 h _ h1;cases x<;>simp_all [CV.kd,uD]
structure R3 (E:fS) (σ:St) (w:bL) (c:e_) (ti:TI) (v:bk) (xs:aA AV):Prop where
 ex:∃(b o:aF) (cs:aA bk),v= .pointer (ah (ad b o))/\cs.length=ti.ks.length/\(∀(j:aF) (u:bk),cs[j]? =ah u->w.cell? (ad b (o+j))=ah u)/\
  xs.length=ti.ks.length/\(∀(j:aF) (x:AV),xs[j]? =ah x->∃u:bk,cs[j]? =ah u/\eM E w c x u)
 kn:∀x∈xs,jh σ x
theorem mD{ti:TI}{b o:aF}{xs:aA AV}(hl:xs.length=ti.ks.length)(h:∀(j:aF) (x:AV),xs[j]? =ah x->∃u:bk,w.cell? (ad b (o+j))=ah u/\eM E w c x u)(hk:∀x∈xs,jh σ x):
  R3 E σ w c ti (.pointer (ah (ad b o))) xs:=by
 refine⟨⟨b,o,(b9 xs.length).map (λj=>(w.cell? (ad b (o+j))).getD undef),rfl,by simp[hl], ?_,hl, ?_⟩,hk⟩
 ·intro j u hu;simp only[bK]at hu;by_cases hj:j<xs.length
  ·obtain⟨u',sA,_⟩:=h j xs[j] (by simp[hj]);simp only[hj,vN,jf,sA,yU,jD]at hu;rw[sA,hu]
  ·simp[kY (l:=b9 xs.length) (by simpa using hj)]at hu
 ·intro j x hx;obtain⟨u,hu,hv⟩:=h j x hx;refine⟨u, ?_,hv⟩
  have hj:j<xs.length:=(aT.1 hx).1;simp[hj,hu]
theorem TT(cg:Ok E σ w c){ti:TI}{p:AV}{v:bk}{xs:aA AV}(hp:eM E w c p v)(h:(tJ E ti p).val σ=ah xs):R3 E σ w c ti v xs:=by
 have Zi:∀(n:aF) (k:Ck) (x:CV),n∈bS (dec k x)->σ (c9 n)≠ .j8:=λn k x hn=>by rw[PK]at hn;simp at hn
 cases p with
 |bp nm j=>
  obtain⟨o,ho,h2⟩:=Rd.bind_some h;have mY:=cg.obj nm o (dA ho);obtain rfl:v=_:=hp;cases o with
  |box ys=>
   obtain⟨hle,h3⟩:=cS h2;have hle:=cO hle;obtain rfl:=aJ h3;obtain⟨vals,hb,hs,hc⟩:=mY;refine mD (by simp;omega) (λq x hx=> ?_) (λx hx=>cg.kn nm ys (dA ho) x (kZ (k_ hx)));rw[ea]at hx;split at hx
   ·rw[dR]at hx;obtain⟨u,hu,hv⟩:=hc (j+q) x hx;exact⟨u,(hb.cell (j+q)).trans hu,hv⟩
   ·cases hx
  |oa cs=>
   obtain⟨hle,h3⟩:=cS h2;have hle:=cO hle;obtain rfl:=aJ h3;refine mD (by simp;omega) (λq x hx=> ?_) (λx hx=> ?_)
   ·rw[bK,ea]at hx;split at hx
    ·rw[dR]at hx;cases hy:cs[j+q]? with
     |none=>rw[hy]at hx;cases hx
     |some y=>rw[hy]at hx;cases hx;obtain⟨u,hu,hv⟩:=mY.2 (j+q) y hy;exact⟨u,hu,NR hv⟩
    ·cases hx
   ·obtain⟨y,_,rfl⟩:=cX.1 hx;intro n hn;rw[CF]at hn;simp at hn
  |row=>simp at h2
  |fU=>simp at h2
  |dead=>simp at h2
 |fp cs j=>
  obtain⟨hle,h3⟩:=cS h;have hle:=cO hle;obtain rfl:=aJ h3;obtain⟨b,rfl,hb⟩:=hp;refine mD (by simp;omega) (λq x hx=> ?_) (λx hx=> ?_)
  ·rw[bK,ea]at hx;split at hx
   ·rw[dR]at hx;cases hy:cs[j+q]? with
    |none=>rw[hy]at hx;cases hx
    |some y=>rw[hy]at hx;cases hx;obtain⟨u,hu,hv⟩:=hb.2 (j+q) y hy;exact⟨u,hu,NR hv⟩
   ·cases hx
  ·obtain⟨y,_,rfl⟩:=cX.1 hx;intro n hn;rw[CF]at hn;simp at hn
 |sp e ys i j=>
  obtain⟨te,ht,h2⟩:=Rd.bind_some h;have ht:=dX ht;obtain⟨hk,h3⟩:=cS h2;have hk:=rN hk;obtain rfl:=aJ h3;obtain⟨b,o,cp,ti2,hh,hi,G9,rfl⟩:=hp;obtain rfl:te=ti2:=aJ (ht.symm.trans G9);refine mD (kO _ _ _ _) (λq x hx=> ?_) (λx hx=> ?_)
  ·rw[lS]at hx;obtain⟨ti3,U,hL⟩:=hh.Jq (by omega);obtain rfl:te=ti3:=aJ (ht.symm.trans hL.ty);have hq:q<ti.ks.length:=by
    cases hq:ti.ks[q]? with
    |none=>rw[hq]at hx;cases hx
    |some k=>exact(aT.1 hq).1
   have hy:ys[i]? =ah ys[i]:=by simp[hi]
   obtain⟨z,hz,wb⟩:=qS (hL.sh ys[i] (bC hi)) hk hq;rw[wb]at hx;cases hx;rw[fH hy hz];exact⟨U i (j+q),by have:=hL.cell i (j+q) _ z hy hz;rwa[show o+i*te.ks.length+j+q=o+i*te.ks.length+(j+q)by omega],KJ (hL.inn i (j+q) _ z hy hz)⟩
  ·obtain⟨q,hq⟩:=bY hx;rw[lS]at hq;cases wb:ti.ks[q]? with
   |none=>rw[wb]at hq;cases hq
   |some k=>rw[wb]at hq;cases hq;intro n hn;exact Zi n _ _ hn
 |rp nm i j=>
  obtain⟨o,ho,h2⟩:=Rd.bind_some h;have ho:=dA ho;have mY:=cg.obj nm o ho;obtain⟨hi,rfl⟩:=hp;cases o with
  |row e ex ys=>
   obtain⟨te,ht,h2⟩:=Rd.bind_some h2;have ht:=dX ht;obtain⟨hk,h3⟩:=cS h2;have hk:=rN hk;have h3:(ex=ai/\plain ti.ks=ai/\xs=vf ys i j ti.ks)\/((ex=ak\/zD nm=ak)/\xs=bif ex then AX nm ys i j ti.ks else vf ys i j ti.ks):=by
    cases hF:(ex&&zD nm)with
    |true=>rw[hF,au]at h3;obtain⟨sV,h3⟩:=cS h3;rw[aL]at hF;exact .inl ⟨hF.1,sV,(aJ h3).symm⟩
    |false=>
     rw[hF,ax]at h3;refine .inr ⟨?_,(aJ h3).symm⟩;cases ex with
     |false=>exact .inl rfl
     |true=>exact .inr (by simpa using hF)
   obtain⟨⟨ti2,G9,gi,mN⟩,gg,_⟩:=mY;obtain rfl:te=ti2:=aJ (ht.symm.trans G9);have jC:(c.P nm).nil=false:=by
    cases hn:(c.P nm).nil with
    |false=>rfl
    |true=>have:=(gg.nil hn).1;subst this;rw[gg.n]at hi;simp at hi
   obtain⟨vals,hb,SX,_,mI,oc⟩:=gg.mem jC;have mc:i<ys.length:=by rw[<-gg.n];exact hi
   have hy:ys[i]? =ah ys[i]:=by simp[mc]
   rcases h3 with ⟨rfl,sV,rfl⟩|h3
   ·refine mD (kO _ _ _ _) (λq x hx=> ?_) (λx hx=> ?_)
    ·have hq:q<ti.ks.length:=by have:=(aT.1 hx).1;simpa [kO]using this
     obtain⟨z,hz,wb⟩:=qS (mN ys[i] (bC mc)) hk hq;obtain⟨u,hu,hr⟩:=oc i _ (j+q) z hy hz;rw[bz rfl]at hr;rw[lS,wb]at hx;cases hx;refine⟨u, ?_, ?_⟩
     ·rw[hb.cell];rw[<-hu];congr 1;omega
     ·have hzk:=bu.1 sV z.kd (aR wb);show eM E w c (dec z.kd (ar ys i (j+q))) u;rw[fH hy hz];cases z with
      |l e2 zs=>cases hzk
      |i k n=>exact pj rfl hr
      |b t=>exact pj rfl hr
      |s t=>exact pj rfl hr
    ·obtain⟨q,hq⟩:=bY hx;intro n hn;rw[lS]at hq;cases wb:ti.ks[q]? with
     |none=>rw[wb]at hq;cases hq
     |some k=>rw[wb]at hq;cases hq;exact Zi n _ _ hn
   obtain⟨hFn,rfl⟩:=h3;refine mD (by cases ex<;>simp[kO,Al]) (λq x hx=> ?_) (λx hx=> ?_)
   ·have hq:q<ti.ks.length:=by have:=(aT.1 hx).1;cases ex<;>simpa [kO,Al]using this
    obtain⟨z,hz,wb⟩:=qS (mN ys[i] (bC mc)) hk hq;obtain⟨u,hu,hr⟩:=oc i _ (j+q) z hy hz;refine⟨u, ?_, ?_⟩
    ·rw[hb.cell];rw[<-hu];congr 1;omega
    ·cases ex with
     |false=>rw[bH (by simp)]at hr;have hx:(vf ys i j ti.ks)[q]? =ah x:=hx;rw[lS,wb]at hx;cases hx;rw[fH hy hz];exact KJ hr
     |true=>
      rw[bz rfl]at hr;have hx:(AX nm ys i j ti.ks)[q]? =ah x:=hx;rw[IE,wb]at hx;cases z with
      |l e2 zs=>cases hx;exact⟨⟨hi,hr.1⟩,hFn.resolve_left (by simp)⟩
      |i k n=>cases hx;rw[fH hy hz];exact pj rfl hr
      |b t=>cases hx;rw[fH hy hz];exact pj rfl hr
      |s t=>cases hx;rw[fH hy hz];exact pj rfl hr
   ·obtain⟨q,hq⟩:=bY hx;intro n hn;cases ex with
    |false=>
     have hq:(vf ys i j ti.ks)[q]? =ah x:=hq;rw[lS]at hq;cases wb:ti.ks[q]? with
     |none=>rw[wb]at hq;cases hq
     |some k=>rw[wb]at hq;cases hq;exact Zi n _ _ hn
    |true=>
     have hq:(AX nm ys i j ti.ks)[q]? =ah x:=hq;rw[IE]at hq;cases wb:ti.ks[q]? with
     |none=>rw[wb]at hq;cases hq
     |some k=>
      rw[wb]at hq;cases k with
      |l e2=>cases hq;simp[bS]at hn;subst hn;rw[ho];simp
      |i=>cases hq;exact Zi n _ _ hn
      |b=>cases hq;exact Zi n _ _ hn
      |s=>cases hq;exact Zi n _ _ hn
      |o=>cases hq;exact Zi n _ _ hn
  |fU e ys=>
   obtain⟨te,ht,h2⟩:=Rd.bind_some h2;have ht:=dX ht;obtain⟨hk,h3⟩:=cS h2;have hk:=rN hk;obtain rfl:=aJ h3;obtain⟨hh,hn,ti2,G9,gi⟩:=mY;obtain rfl:te=ti2:=aJ (ht.symm.trans G9);have mc:i<ys.length:=by rw[<-hn];exact hi
   have hy:ys[i]? =ah ys[i]:=by simp[mc]
   have jC:(c.P nm).nil=false:=by
    cases hq:(c.P nm).nil with
    |false=>rfl
    |true=>unfold lT at hh;rw[bz hq]at hh;cases hh;simp at mc
   unfold lT at hh;rw[bH (by simp[jC]),hn]at hh;refine mD (kO _ _ _ _) (λq x hx=> ?_) (λx hx=> ?_)
   ·rw[lS]at hx;obtain⟨ti3,U,hL⟩:=hh.Jq (by omega);obtain rfl:te=ti3:=aJ (ht.symm.trans hL.ty);have hq:q<ti.ks.length:=by
     cases hq:ti.ks[q]? with
     |none=>rw[hq]at hx;cases hx
     |some k=>exact(aT.1 hq).1
    obtain⟨z,hz,wb⟩:=qS (hL.sh ys[i] (bC mc)) hk hq;rw[wb]at hx;cases hx;rw[fH hy hz];exact⟨U i (j+q),by have:=hL.cell i (j+q) _ z hy hz;rw[<-this];congr 2;rw[gi];omega,KJ (hL.inn i (j+q) _ z hy hz)⟩
   ·obtain⟨q,hq⟩:=bY hx;rw[lS]at hq;cases wb:ti.ks[q]? with
    |none=>rw[wb]at hq;cases hq
    |some k=>rw[wb]at hq;cases hq;intro n hn;exact Zi n _ _ hn
  |box=>simp at h2
  |oa=>simp at h2
  |dead=>simp at h2
 |ip nm i j i2 j2=>
  obtain⟨o,ho,h2⟩:=Rd.bind_some h;have ho:=dA ho;have mY:=cg.obj nm o ho;obtain⟨⟨me,hi,rfl⟩,hFp⟩:=hp;cases o with
  |row e ex ys=>
   cases ex with
   |false=>simp at h2
   |true=>
    obtain⟨te,ht,h2⟩:=Rd.bind_some h2;have ht:=dX ht;split at h2
    ·rename_i e2 Aj;obtain⟨t2,G9,h2⟩:=Rd.bind_some h2;have G9:=dX G9;obtain⟨hk,h3⟩:=cS h2;have hk:=rN hk;obtain rfl:=aJ h3;obtain⟨⟨tj,htj,gi,mN⟩,gg,_⟩:=mY;obtain rfl:te=tj:=aJ (ht.symm.trans htj);obtain⟨zs,y,hy,hyj,uu,_,tk,G_,sV,Lc,D3,oQ⟩:=uL (c:=c) gg mN me Aj;obtain rfl:t2=tk:=aJ (G9.symm.trans G_);rw[fH hy hyj];refine mD (kO _ _ _ _) (λq x hx=> ?_) (λx hx=> ?_)
     ·rw[lS]at hx;have hq:q<ti.ks.length:=by
       cases hq:ti.ks[q]? with
       |none=>rw[hq]at hx;cases hx
       |some k=>exact(aT.1 hq).1
      have sr:i2<zs.length:=by rw[<-oQ.n];exact hi
      have Cy:(c.G nm i j).nil=false:=by
       cases hn:(c.G nm i j).nil with
       |false=>rfl
       |true=>have:=(oQ.nil hn).1;subst this;simp at sr
      obtain⟨vals,hb,_,_,_,oc⟩:=oQ.mem Cy;have hzi:zs[i2]? =ah zs[i2]:=by simp[sr]
      obtain⟨z,hz,wb⟩:=qS (D3 zs[i2] (bC sr)) hk hq;obtain⟨u,hu,hr⟩:=oc i2 _ (j2+q) z hzi hz;rw[wb]at hx;cases hx;refine⟨u, ?_, ?_⟩
      ·rw[hb.cell,<-hu];congr 1;omega
      ·show eM E w c (dec z.kd (ar zs i2 (j2+q))) u;rw[fH hzi hz];exact pj (iv sV (D3 _ (bC sr)) hz) hr
     ·obtain⟨q,hq⟩:=bY hx;rw[lS]at hq;cases wb:ti.ks[q]? with
      |none=>rw[wb]at hq;cases hq
      |some k=>rw[wb]at hq;cases hq;intro n hn;exact Zi n _ _ hn
    ·simp at h2
  |fU=>simp at h2
  |box=>simp at h2
  |oa=>simp at h2
  |dead=>simp at h2
 |i=>simp[tJ]at h
 |b=>simp[tJ]at h
 |s=>simp[tJ]at h
 |sh=>simp[tJ]at h
 |nl=>simp[tJ]at h
 |own=>simp[tJ]at h
 |vw=>simp[tJ]at h
 |inn=>simp[tJ]at h
 |fn=>simp[tJ]at h
end
end Go.FG

namespace Go.FG
section
variable {P:c6} {E:fS} {σ:St} {a:Act} {w:bL} {c:e_} {o:fD} {nm:aF} {e:s5}
theorem i9{s:Sem bk}{v:bk}{w':bL}(hr:s.run P w= .ok v w'):(do pure (Next.value (<-s)):Sem Next).run P w= .ok (.value v) w':=by simp only[cm,hr,bG,cU]
theorem fY(cg:Ok E σ w c)(dL:fF E σ a w c)(hd:∀d,o.dst=ah d->d<a.tmps.size){s:SV}{v:bk}(h:(val o s).val σ=ah e)(hs:jk E w c s v)(hk:mR σ s)(hr:(execOp a.eval o).run P w= .ok (.value v) w):gY P E σ a w c o e.ws:=by obtain rfl:=aJ h;exact gJ cg dL hd hs hk hr
theorem Fw(cg:Ok E σ w c)(dL:fF E σ a w c)(hd:∀d,o.dst=ah d->d<a.tmps.size){b:aX}{x:AV}{v:bk}(h:(L7 o b x).val σ=ah e)(hc:e.cond=ai)(hs:b=ai->eM E w c x v)(hk:jh σ x)(hr:b=ai->(execOp a.eval o).run P w= .ok (.value v) w):gY P E σ a w c o e.ws:=by obtain rfl:=aJ h;have hc:b=true:=hc;exact gJ cg dL hd (hs hc) (λn hn=>hk n (by simpa [cQ]using hn)) (hr hc)
theorem uE{σ:St}{x:AV}(h:bS x=[]):jh σ x:=λn hn=>by rw[h]at hn;simp at hn
theorem NV(cg:Ok E σ w c)(dL:fF E σ a w c)(hd:∀d,o.dst=ah d->d<a.tmps.size){x:dz}(ho:o.op= .move x\/o.op= .assign x)(h:(mg E nm o).val σ=ah e):gY P E σ a w c o e.ws:=by
 have h':((Hp x).bind λv=>val o v).val σ=ah e:=by rcases ho with ho|ho<;>simpa [mg,ho]using h
 obtain⟨v,h1,h2⟩:=Rd.bind_some h';obtain⟨hv,hk⟩:=mw dL h1;refine fY cg dL hd h2 hv hk ?_;rcases ho with ho|ho<;>(unfold execOp;rw[ho];rfl)
theorem JC(cg:Ok E σ w c)(dL:fF E σ a w c)(hd:∀d,o.dst=ah d->d<a.tmps.size){x:dz}(ho:o.op= .nilCheck x)(h:(mg E nm o).val σ=ah e):gY P E σ a w c o e.ws:=by
 simp only[mg,ho]at h;obtain⟨p,h1,h⟩:=Rd.bind_some h;obtain⟨ex,kx⟩:=i_ dL h1;cases p with
 |bp n j=>have uA:a.eval x= .pointer (ah (ad (c.P n).blk j)):=ex;refine fY cg dL hd h (v:=a.eval x) ex (λn hn=>kx n (by simpa [cQ]using hn)) ?_;unfold execOp;rw[ho];simp only[uA];rfl
 |rp n i j=>have uA:a.eval x= .pointer (ah (ad (c.P n).blk ((c.P n).off+i*(c.P n).sz+j))):=ex.2;refine fY cg dL hd h (v:=a.eval x) ex (λn hn=>kx n (by simpa [cQ]using hn)) ?_;unfold execOp;rw[ho];simp only[uA];rfl
 |_=>cases h
theorem Zp(cg:Ok E σ w c)(dL:fF E σ a w c)(hd:∀d,o.dst=ah d->d<a.tmps.size){x y z:dz}(ho:o.op= .pick x y z)(h:(mg E nm o).val σ=ah e)(hc:e.cond=ai):gY P E σ a w c o e.ws:=by
 simp only[mg,ho]at h;obtain⟨cx,h1,h⟩:=Rd.bind_some h;obtain⟨vy,h2,h⟩:=Rd.bind_some h;obtain⟨vz,h3,h⟩:=Rd.bind_some h;obtain⟨ex,kx⟩:=i_ dL h1;obtain⟨ey,ky⟩:=mw dL h2;obtain⟨ez,kz⟩:=mw dL h3;have run:∀b,a.eval x= .bool b->(execOp a.eval o).run P w= .ok (.value (if b then a.eval y else a.eval z)) w:=by intro b hb;unfold execOp;rw[ho];simp only[hb,asBool,cm,cU,bG]
 cases cx with
 |b b=>
  replace ex:a.eval x= .bool b:=ex;have both:∀p q,vy= .v ak [.b p]->vz= .v ak [.b q]->gY P E σ a w c o e.ws:=by
   rintro p q rfl rfl;refine fY cg dL hd h (v:=if b then a.eval y else a.eval z) ?_ (λn hn=>by simp[cQ,bS]at hn) (run b ex);cases b
   ·exact ez
   ·exact ey
  have lft:vy= .kj []->gY P E σ a w c o e.ws:=by
   rintro rfl;replace h:(Rd.ret (⟨!b,dw o vz⟩:s5)).val σ=ah e:=by cases vz<;>exact h
   obtain rfl:=aJ h;have hb:b=false:=by simpa using hc
   subst hb;exact gJ cg dL hd ez kz (run ak ex)
  have rgt:vz= .kj []->vy≠ .kj []->gY P E σ a w c o e.ws:=by
   rintro rfl iA;replace h:(Rd.ret (⟨b,dw o vy⟩:s5)).val σ=ah e:=by
    cases vy with
    |un=>exact h
    |kj l=>cases l with
     |nil=>exact cK rfl iA
     |cons=>exact h
    |v g xs=>cases g<;>(rcases xs with _|⟨⟨⟩,_|⟨_,_⟩⟩<;>exact h)
   obtain rfl:=aJ h;have hb:b=true:=hc;subst hb;exact gJ cg dL hd ey ky (run ai ex)
  cases vy with
  |un=>cases vz with
   |un=>simp at h
   |kj l=>cases l with
    |nil=>exact rgt rfl (by simp)
    |cons=>simp at h
   |v=>simp at h
  |kj l=>cases l with
   |nil=>exact lft rfl
   |cons=>cases vz with
    |un=>simp at h
    |kj l2=>cases l2 with
     |nil=>exact rgt rfl (by simp)
     |cons=>simp at h
    |v=>simp at h
  |v g xs=>cases vz with
   |un=>simp at h
   |kj l2=>cases l2 with
    |nil=>exact rgt rfl (by simp)
    |cons=>simp at h
   |v g2 ys=>cases g<;>cases g2<;>rcases xs with _|⟨⟨⟩,_|⟨_,_⟩⟩<;>rcases ys with _|⟨⟨⟩,_|⟨_,_⟩⟩<;>first|(simp at h;done)|exact both _ _ rfl rfl
 |i=>simp at h
 |s=>simp at h
 |sh=>simp at h
 |nl=>simp at h
 |own=>simp at h
 |vw=>simp at h
 |bp=>simp at h
 |rp=>simp at h
 |sp=>simp at h
 |inn=>simp at h
 |ip=>simp at h
 |fn=>simp at h
 |fp=>simp at h
theorem Zo(hE:eH P E)(cg:Ok E σ w c)(dL:fF E σ a w c)(hd:∀d,o.dst=ah d->d<a.tmps.size){t:aF}{p:dz}(ho:o.op= .load t p)(h:(mg E nm o).val σ=ah e):gY P E σ a w c o e.ws:=by
 simp only[mg,ho]at h;obtain⟨ti,h1,h⟩:=Rd.bind_some h;obtain⟨pv,h2,h⟩:=Rd.bind_some h;obtain⟨xs,h3,h⟩:=Rd.bind_some h;have ht:=dX h1;obtain⟨ep,_⟩:=i_ dL h2;obtain⟨⟨b,of,cs,hv,hl,hcell,hlen,Wr⟩,Jc⟩:=TT cg ep h3;have hr:=C5 (P:=P) w hE ht hl hcell;refine fY cg dL hd h (v:=if ti.agg=ai then .agg cs.toArray else cs.headD .nilIface) ?_ (λn hn=>by obtain⟨x,hx,hn⟩:=bQ.1 hn;exact Jc x hx n hn) ?_
 ·show qn E w c ti.agg xs _;cases uC:ti.agg with
  |true=>rw[bz rfl];exact⟨cs.toArray,rfl,by simp[hl,hlen],λj x hj=>by obtain⟨u,hu,hx⟩:=Wr j x hj;exact⟨u,by simpa using hu,hx⟩⟩
  |false=>
   obtain⟨d,_,_,hn⟩:=hE.desc t ti ht;have h1:ti.ks.length=1:=by rcases hn uC with ⟨k,h,_⟩|⟨h,_⟩|⟨h,_⟩|⟨e',h,_⟩|⟨h,_⟩<;>simp[h]
   obtain⟨x,rfl⟩:=gZ.1 (hlen.trans h1);obtain⟨v,rfl⟩:=gZ.1 (hl.trans h1);obtain⟨u,hu,hx⟩:=Wr 0 x rfl;simp at hu;subst hu;simpa [qn]using hx
 ·unfold execOp;rw[ho];exact i9 (by rw[hv];exact hr)
theorem Hl(hE:eH P E)(cg:Ok E σ w c)(dL:fF E σ a w c)(hd:∀d,o.dst=ah d->d<a.tmps.size){t f:aF}{p:dz}(ho:o.op= .fieldAddr t p f)(h:(mg E nm o).val σ=ah e):gY P E σ a w c o e.ws:=by
 simp only[mg,ho]at h;obtain⟨pv,h1,h⟩:=Rd.bind_some h;obtain⟨q,h2,h⟩:=Rd.bind_some h;obtain⟨ep,kp⟩:=i_ dL h1;unfold SC at h2;cases hf:E.fo t f with
 |none=>rw[hf]at h2;simp at h2
 |some r=>
  obtain⟨off,n⟩:=r;rw[hf]at h2;have run:∀b o',a.eval p= .pointer (ah (ad b o'))->(execOp a.eval o).run P w= .ok (.value (.pointer (ah (ad b (o'+off))))) w:=by intro b o' hp;unfold execOp;rw[ho];exact i9 (by rw[hp];exact JL (P:=P) w hE hf b o')
  cases pv with
  |bp iG j=>obtain rfl:=aJ h2;exact fY cg dL hd h (s:= .v ak [.bp iG (j+off)]) (v:= .pointer (ah (ad (c.P iG).blk (j+off)))) rfl (λn hn=>kp n (by simpa [cQ,bS]using hn)) (run _ _ ep)
  |rp iG i j=>obtain rfl:=aJ h2;refine fY cg dL hd h (s:= .v ak [.rp iG i (j+off)]) ?_ (λn hn=>kp n (by simpa [cQ,bS]using hn)) (run _ _ ep.2);exact⟨ep.1,by rw[show(c.P iG).off+i*(c.P iG).sz+j+off=(c.P iG).off+i*(c.P iG).sz+(j+off)by omega]⟩
  |sp e2 xs i j=>obtain rfl:=aJ h2;obtain⟨b,o',cp,ti,e1,Xo,e3,e4⟩:=ep;refine fY cg dL hd h (s:= .v ak [.sp e2 xs i (j+off)]) ?_ (λn hn=>by simp[cQ,bS]at hn) (run _ _ e4);exact⟨b,o',cp,ti,e1,Xo,e3,by rw[show o'+i*ti.ks.length+j+off=o'+i*ti.ks.length+(j+off)by omega]⟩
  |ip iG i j i2 j2=>obtain rfl:=aJ h2;refine fY cg dL hd h (s:= .v ak [.ip iG i j i2 (j2+off)]) ?_ (λn hn=>kp n (by simpa [cQ,bS]using hn)) (run _ _ ep.1.2.2);exact⟨⟨ep.1.1,ep.1.2.1,by rw[show(c.G iG i j).off+i2*(c.G iG i j).sz+j2+off=(c.G iG i j).off+i2*(c.G iG i j).sz+(j2+off)by omega]⟩,ep.2⟩
  |fp cs j=>obtain rfl:=aJ h2;obtain⟨b,e1,Xo⟩:=ep;exact fY cg dL hd h (s:= .v ak [.fp cs (j+off)]) ⟨b,rfl,Xo⟩ (λn hn=>by simp[cQ,bS]at hn) (run _ _ e1)
  |i=>simp at h2
  |b=>simp at h2
  |s=>simp at h2
  |sh=>simp at h2
  |nl=>simp at h2
  |own=>simp at h2
  |vw=>simp at h2
  |inn=>simp at h2
  |fn=>simp at h2
theorem Ly(cg:Ok E σ w c)(dL:fF E σ a w c)(hd:∀d,o.dst=ah d->d<a.tmps.size){x:dz}{i:aF}(ho:o.op= .extract x i)(h:(mg E nm o).val σ=ah e):gY P E σ a w c o e.ws:=by
 simp only[mg,ho]at h;obtain⟨v,h1,h⟩:=Rd.bind_some h;obtain⟨ev,kv⟩:=mw dL h1;split at h
 ·rename_i l;split at h
  ·rename_i agg xs hl;obtain⟨vs,e1,e2,e3⟩:=ev;obtain⟨u,hu,hv⟩:=e3 i agg xs hl;refine fY cg dL hd h (v:=u) hv (λn hn=>kv n (bQ.2 ⟨(agg,xs),aR hl,hn⟩)) ?_;unfold execOp;rw[ho];refine i9 ?_;rw[e1];simp only[Instr.extract,hu];rfl
  ·simp at h
 ·simp at h
theorem Zq(cg:Ok E σ w c)(dL:fF E σ a w c)(hd:∀d,o.dst=ah d->d<a.tmps.size){x:dz}{op:UnOp}{t:aF}(ho:o.op= .unOp op t x)(h:(mg E nm o).val σ=ah e):gY P E σ a w c o e.ws:=by
 simp only[mg,ho]at h;obtain⟨v,h1,h⟩:=Rd.bind_some h;obtain⟨ev,kv⟩:=i_ dL h1;cases op with
 |not=>
  cases v with
  |b b=>refine fY cg dL hd h (v:= .bool !b) rfl (λn hn=>by simp[cQ,bS]at hn) ?_;unfold execOp;rw[ho];refine i9 ?_;rw[show a.eval x= .bool b from ev];rfl
  |_=>simp at h
 |neg=>
  cases v with
  |i k n=>refine fY cg dL hd h (v:= .int k (k.wrap (0-n))) rfl (λn hn=>by simp[cQ,bS]at hn) ?_;unfold execOp;rw[ho];refine i9 ?_;rw[show a.eval x= .int k n from ev];rfl
  |_=>simp at h
 |_=>cases v<;>simp at h
theorem rQ{E:fS}{σ:St}{t:aF}{k:Ck}(h:(pY E t).val σ=ah k):∃ti,E.ty t=ah ti/\ti.agg=ak/\ti.ks=[k]:=by
 obtain⟨ti,h1,h2⟩:=Rd.bind_some h;split at h2
 ·rename_i k' h3 h4;simp at h2;subst h2;exact⟨ti,dX h1,h3,h4⟩
 ·simp at h2
theorem kM{E:fS}{σ:St}(hE:eH P E){t e:aF}(h:(pY E t).val σ=ah (.l e)):P.underlying t=ah (.slice e):=by obtain⟨ti,h1,h2,h3⟩:=rQ h;exact pk hE h1 h2 h3
theorem ll{E:fS}{σ:St}(hE:eH P E){t:aF}(h:(pY E t).val σ=ah .s):P.underlying t=ah .string:=by obtain⟨ti,h1,h2,h3⟩:=rQ h;obtain⟨d,hd,_,hn⟩:=hE.desc t ti h1;rcases hn h2 with ⟨k,h,_⟩|⟨h,_⟩|⟨h,rfl⟩|⟨e',h,_⟩|⟨h,_⟩<;>rw[h3]at h<;>simp_all
theorem Ux(hE:eH P E)(cg:Ok E σ w c)(dL:fF E σ a w c)(hd:∀d,o.dst=ah d->d<a.tmps.size){x y:dz}{t:aF}(ho:o.op= .index t x y)(h:(mg E nm o).val σ=ah e)(hc:e.cond=ai):gY P E σ a w c o e.ws:=by
 simp only[mg,ho]at h;obtain⟨kk,h0,h⟩:=Rd.bind_some h;obtain⟨v,h1,h⟩:=Rd.bind_some h;obtain⟨⟨k,n⟩,h2,h⟩:=Rd.bind_some h;obtain⟨ev,kv⟩:=i_ dL h1;have ei:=pZ dL h2;cases kk with
 |s=>cases v with
  |s s=>
   have hu:=ll hE h0;refine Fw cg dL hd h hc (v:= .int .u8 ((s.data.getD n.toNat 0).toNat:aw)) (λ_=>rfl) (uE rfl) (λhb=> ?_);simp only[aL,bf]at hb;obtain⟨h0,h3⟩:=hb;unfold execOp;rw[ho];refine i9 ?_;replace ev:a.eval x= .string s:=ev.1;have jB:n.toNat<s.size:=by omega
   have hg:s[n.toNat]? =ah s[n.toNat]:=by simp[jB]
   have hs:s[n.toNat]=s.data.getD n.toNat 0:=by rw[Array.getD,dif_pos (show n.toNat<s.data.size from jB)];rfl
   simp only[ev,ei,Instr.index,asIntOf,cm,cU,bG,run_underlying hu,h0,if_true,hg,hs]
  |_=>simp at h
 |_=>simp at h
end
end Go.FG

namespace Go.FG
section
variable {P:c6} {E:fS} {σ:St} {a:Act} {w:bL} {c:e_} {o:fD} {nm:aF} {e:s5}
theorem qK{α:Type}{b:aX}{x:α}{σ:St}{r:α}(h:(bif b then Rd.ret x else Rd.fail).val σ=ah r):b=ai/\r=x:=by obtain⟨h1,h2⟩:=cS h;exact⟨h1,(aJ h2).symm⟩
theorem fc{p:Pl}(h:p.nil=ak):lT p= .slice (ah (ad p.blk p.off)) p.n p.cap:=by unfold lT;rw[bH (by simp[h])]
theorem nK{p:Pl}(h:p.nil=ai):lT p= .slice aj 0 0:=by unfold lT;rw[bz h]
theorem lu{nm e:aF}{ex:aX}{xs:aQ}(cg:Ok E σ w c)(h:σ (c9 nm)= .o (.row e ex xs)):
  (c.P nm).n=xs.length/\((c.P nm).nil=ai->xs=[])/\∃ti,E.ty e=ah ti/\(c.P nm).sz=ti.ks.length/\((c.P nm).nil=ak->(c.P nm).n<=(c.P nm).cap/\(c.P nm).cap<=maxLen):=by have mY:=cg.obj nm _ h;obtain⟨ti,h1,h2,_⟩:=mY.sh;exact⟨mY.at_.n,λhn=>(mY.at_.nil hn).1,ti,h1,h2,λhn=>by obtain⟨_,_,h3,h4,_⟩:=mY.at_.mem hn;exact⟨h3,h4⟩⟩
theorem m7{nm e:aF}{xs:aQ}(cg:Ok E σ w c)(h:σ (c9 nm)= .o (.fU e xs)):
  (c.P nm).n=xs.length/\((c.P nm).nil=ai->xs=[])/\∃ti,E.ty e=ah ti/\(c.P nm).sz=ti.ks.length:=by
 obtain⟨h1,h2,h3⟩:=cg.obj nm _ h;refine⟨h2,λhn=> ?_,h3⟩
 rw[nK hn]at h1;cases h1;rfl
theorem Hm(hE:eH P E)(cg:Ok E σ w c)(dL:fF E σ a w c)(hd:∀d,o.dst=ah d->d<a.tmps.size){x y:dz}{t:aF}(ho:o.op= .indexAddr t x y)(h:(mg E nm o).val σ=ah e)(hc:e.cond=ai):gY P E σ a w c o e.ws:=by
 simp only[mg,ho]at h;obtain⟨kk,h0,h⟩:=Rd.bind_some h;cases kk with
 |l el=>
  obtain⟨v,h1,h⟩:=Rd.bind_some h;obtain⟨⟨k,n⟩,h2,h⟩:=Rd.bind_some h;obtain⟨⟨b,q⟩,h3,h⟩:=Rd.bind_some h;obtain⟨ev,kv⟩:=i_ dL h1;have ei:=pZ dL h2;have hu:=kM hE h0;have run:∀te b o' m cp,E.ty el=ah te->a.eval x= .slice (ah (ad b o')) m cp->0<=n->n<(m:aw)->(execOp a.eval o).run P w= .ok (.value (.pointer (ah (ad b (o'+n.toNat*te.ks.length))))) w:=by intro te b o' m cp Ld hx h0 h1;unfold execOp;rw[ho];refine i9 ?_;rw[hx,ei];exact JM (P:=P) w hE hu Ld b o' m cp k n h0 h1
  cases v with
  |sh e' xs=>
   obtain⟨DY,h3⟩:=qK h3;obtain⟨rfl,rfl⟩:=bW h3;have:=aU DY;subst this;obtain rfl:=aJ h;have hc:(decide (0<=n)&&decide (n<(xs.length:aw)))=true:=hc;simp only[aL,bf]at hc;obtain⟨c0,c1⟩:=hc;have ev:da E w c.K (a.eval x) (.l el xs):=ev;generalize hv:a.eval x=v at ev;have iA:0<xs.length:=by omega
   cases ev with
   |nl=>simp at iA
   |l _ _ bb oo cc ti U ht Pn hmx hK hs hcell gh=>exact gJ cg dL hd (s:= .v ak [.sp el xs n.toNat 0]) (v:= .pointer (ah (ad bb (oo+n.toNat*ti.ks.length)))) ⟨bb,oo,cc,ti, .l el xs bb oo cc ti U ht Pn hmx hK hs hcell gh,by omega,ht,rfl⟩ (λn hn=>by simp[cQ,bS]at hn) (run ti bb oo _ cc ht hv c0 c1)
  |own iG=>
   obtain⟨ob,hg,h3⟩:=Rd.bind_some h3;have hg:=dA hg;have main:∀(xs:aQ),(c.P iG).n=xs.length->((c.P iG).nil=ai->xs=[])->(∃ti,E.ty el=ah ti/\(c.P iG).sz=ti.ks.length)->(b,q)=(decide (0<=n)&&decide (n<(xs.length:aw)),AV.rp iG n.toNat 0)->gY P E σ a w c o e.ws:=by
    intro xs hn jC XY hbq;obtain⟨rfl,rfl⟩:=bW hbq;obtain rfl:=aJ h;have hc:(decide (0<=n)&&decide (n<(xs.length:aw)))=true:=hc;simp only[aL,bf]at hc;obtain⟨c0,c1⟩:=hc;obtain⟨ti,ht,gi⟩:=XY;have Pt:(c.P iG).nil=false:=by
     cases hq:(c.P iG).nil with
     |false=>rfl
     |true=>rw[jC hq]at c1;simp at c1;omega
    have hx:a.eval x= .slice (ah (ad (c.P iG).blk (c.P iG).off)) (c.P iG).n (c.P iG).cap:=by rw[<-fc Pt];exact ev
    refine gJ cg dL hd (s:= .v ak [.rp iG n.toNat 0]) (v:= .pointer (ah (ad (c.P iG).blk ((c.P iG).off+n.toNat*ti.ks.length)))) ⟨by omega,by rw[gi];rfl⟩ (λm hm=>by simp[cQ,bS]at hm;subst hm;rw[hg];simp) (run ti _ _ _ _ ht hx c0 (by rw[hn];exact c1))
   cases ob with
   |row e' ex xs=>obtain⟨DY,h4⟩:=qK h3;have:=aU DY;subst this;obtain⟨i1,i2,ti,i3,i4,_⟩:=lu cg hg;exact main xs i1 i2 ⟨ti,i3,i4⟩ h4
   |fU e' xs=>obtain⟨DY,h4⟩:=qK h3;have:=aU DY;subst this;obtain⟨i1,i2,i3⟩:=m7 cg hg;exact main xs i1 i2 i3 h4
   |_=>simp at h3
  |vw iG lo hi=>
   obtain⟨ob,hg,h3⟩:=Rd.bind_some h3;have hg:=dA hg;have main:∀(xs:aQ),(c.P iG).n=xs.length->(∃ti,E.ty el=ah ti/\(c.P iG).sz=ti.ks.length)->(b,q)=(decide (0<=n)&&decide (n<((hi-lo:aF):aw)),AV.rp iG (lo+n.toNat) 0)->gY P E σ a w c o e.ws:=by
    intro xs hn XY hbq;obtain⟨rfl,rfl⟩:=bW hbq;obtain rfl:=aJ h;have hc:(decide (0<=n)&&decide (n<((hi-lo:aF):aw)))=true:=hc;simp only[aL,bf]at hc;obtain⟨c0,c1⟩:=hc;obtain⟨ti,ht,gi⟩:=XY;obtain⟨v1,v2,v3,v4⟩:=ev;have Pt:(c.P iG).nil=false:=by
     cases hq:(c.P iG).nil with
     |false=>rfl
     |true=>
      obtain⟨f1,_⟩:(c.P iG).n=0/\True:=by
       have mY:=cg.obj iG _ hg;rw[hn];cases ob with
       |row e' ex ys=>obtain⟨j1,j2,_⟩:=lu cg hg;rw[<-hn,j1,j2 hq];simp
       |fU e' ys=>obtain⟨j1,j2,_⟩:=m7 cg hg;rw[<-hn,j1,j2 hq];simp
       |_=>simp at h3
      omega
    rcases v4 Pt with ⟨u1,hx⟩|⟨u1,oo,u2,hx⟩
    ·refine gJ cg dL hd (s:= .v ak [.rp iG (lo+n.toNat) 0]) (v:= .pointer (ah (ad (c.P iG).blk ((c.P iG).off+lo*(c.P iG).sz+n.toNat*ti.ks.length)))) ⟨by omega, ?_⟩ (λm hm=>by simp[cQ,bS]at hm;subst hm;rw[hg];simp) (run ti _ _ _ _ ht hx c0 c1);rw[<-gi,show(c.P iG).off+(lo+n.toNat)*(c.P iG).sz+0=(c.P iG).off+lo*(c.P iG).sz+n.toNat*(c.P iG).sz by rw[dq];omega]
    ·exfalso;have Pn:(c.P iG).n<=(c.P iG).cap:=by
      cases ob with
      |row e' ex ys=>obtain⟨_,_,_,_,_,j⟩:=lu cg hg;exact(j Pt).1
      |fU e' ys=>
       obtain⟨j1,j2,_⟩:=cg.obj iG _ hg;rw[fc Pt]at j1;by_cases hz:0<ys.length
       ·obtain⟨t3,U,L⟩:=j1.Jq hz;rw[j2];exact L.cap
       ·omega
      |_=>simp at h3
     omega
   cases ob with
   |row e' ex xs=>obtain⟨DY,h4⟩:=qK h3;have:=aU DY;subst this;obtain⟨i1,i2,ti,i3,i4,_⟩:=lu cg hg;exact main xs i1 ⟨ti,i3,i4⟩ h4
   |fU e' xs=>obtain⟨DY,h4⟩:=qK h3;have:=aU DY;subst this;obtain⟨i1,i2,i3⟩:=m7 cg hg;exact main xs i1 i3 h4
   |_=>simp at h3
  |inn iG i j=>
   obtain⟨ob,hg,h3⟩:=Rd.bind_some h3;have hg:=dA hg;cases ob with
   |row e' ex xs=>
    cases ex with
    |false=>simp at h3
    |true=>
     obtain⟨te,ht,h3⟩:=Rd.bind_some h3;have ht:=dX ht;split at h3
     ·rename_i e2 Aj;obtain⟨DY,h3⟩:=qK h3;obtain⟨rfl,rfl⟩:=bW h3;have:=aU DY;subst this;obtain rfl:=aJ h;obtain⟨⟨me,hx⟩,hFv⟩:=ev;obtain⟨⟨tj,htj,gi,mN⟩,gg,_⟩:=cg.obj iG _ hg;obtain rfl:te=tj:=aJ (ht.symm.trans htj);obtain⟨zs,y',hy,hyj,uu,_,tk,G_,sV,Lc,D3,oQ⟩:=uL (c:=c) gg mN me Aj;have hc:(decide (0<=n)&&decide (n<((jx (ar xs i j)).length:aw)))=true:=hc;rw[fH hy hyj]at hc;simp only[aL,bf]at hc;obtain⟨c0,c1⟩:=hc;have c1:n<(zs.length:aw):=c1;have Pt:(c.G iG i j).nil=false:=by
       cases hq:(c.G iG i j).nil with
       |false=>rfl
       |true=>have:=(oQ.nil hq).1;subst this;simp at c1;omega
      rw[fc Pt]at hx;refine gJ cg dL hd (s:= .v ak [.ip iG i j n.toNat 0]) (v:= .pointer (ah (ad (c.G iG i j).blk ((c.G iG i j).off+n.toNat*tk.ks.length)))) ⟨⟨me,by rw[oQ.n];omega,by rw[Lc];rfl⟩,hFv⟩ (λm hm=>by simp[cQ,bS]at hm;subst hm;rw[hg];simp) (run tk _ _ _ _ G_ hx c0 (by rw[oQ.n];exact c1))
     ·simp at h3
   |_=>simp at h3
  |_=>simp[S_]at h3
 |_=>simp at h
end
end Go.FG

namespace Go.FG
section
variable {P:c6} {E:fS} {σ:St} {a:Act} {w:bL} {c:e_} {o:fD} {nm:aF} {e:s5}
theorem Bx(dL:fF E σ a w c){x:az dz}{d n:aw}(h:(oe x d).val σ=ah n):(x=aj/\n=d)\/∃y k,x=ah y/\a.eval y= .int k n:=by
 cases x with
 |none=>exact .inl ⟨rfl,(aJ h).symm⟩
 |some y=>obtain⟨⟨k,m⟩,h1,h2⟩:=Rd.bind_some h;obtain rfl:=aJ h2;exact .inr ⟨y,k,rfl,pZ dL h1⟩
theorem Fs{x:bk}{k:nu}{n:aw}{y:aF}{code:BoundsCode}(hx:x= .int k n)(h0:0<=n)(h1:n<=y):(qW x y code).run P w= .ok n.toNat w:=by subst hx;simp only[qW,asIntOf,cm,cU,bG,h0,h1,and_self,if_true]
theorem C2(dL:fF E σ a w c){isS:aX}{len cap:aF}{lo hi:az dz}{l h:aw}(hl:(oe lo 0).val σ=ah l)(hh:(oe hi len).val σ=ah h)(h0:0<=l)(h1:l<=h)(h2:h<=cap):
  (na isS len cap (lo.map a.eval) (hi.map a.eval) aj).run P w= .ok (l.toNat,h.toNat,cap) w:=by
 have low:∀v,lo=ah v->∀code,(qW (a.eval v) h.toNat code).run P w= .ok l.toNat w:=by
  intro v hv code;rcases Bx dL hl with ⟨hx,_⟩|⟨y,k,hx,hy⟩
  ·rw[hx]at hv;cases hv
  ·rw[hx]at hv;cases hv;exact Fs hy h0 (by omega)
 have high:∀v,hi=ah v->∀code,(qW (a.eval v) cap code).run P w= .ok h.toNat w:=by
  intro v hv code;rcases Bx dL hh with ⟨hx,_⟩|⟨y,k,hx,hy⟩
  ·rw[hx]at hv;cases hv
  ·rw[hx]at hv;cases hv;exact Fs hy (by omega) h2
 have l0:lo=aj->l=0:=λhx=>by rcases Bx dL hl with ⟨_,hn⟩|⟨y,k,hy,_⟩;exact hn;rw[hx]at hy;cases hy
 have Wp:hi=aj->h=len:=λhx=>by rcases Bx dL hh with ⟨_,hn⟩|⟨y,k,hy,_⟩;exact hn;rw[hx]at hy;cases hy
 cases lo with
 |none=>
  obtain rfl:=l0 rfl;cases hi with
  |none=>obtain rfl:=Wp rfl;simp[na]
  |some v=>simp[na,high v rfl]
 |some u=>
  cases hi with
  |none=>obtain rfl:=Wp rfl;have:=low u rfl;simp only[dH]at this;simp[na,this]
  |some v=>simp[na,high v rfl,low u rfl]
theorem LM{t:aF}(hu:P.underlying t=ah .string)(dL:fF E σ a w c){lo hi:az dz}{l h:aw}{s:aq}(hl:(oe lo 0).val σ=ah l)(hh:(oe hi s.size).val σ=ah h)(h0:0<=l)(h1:l<=h)(h2:h<=(s.size:aw)):
  (qA t (.string s) (lo.map a.eval) (hi.map a.eval) aj).run P w= .ok (.string (s.extract l.toNat h.toNat)) w:=by simp only[qA,Instr.slice,cm,run_underlying hu,bG,Option.isSome_none,dy,if_false,C2 (P:=P) dL hl hh h0 h1 h2,cU]
theorem kQ{t el:aF}{te:TI}(hE:eH P E)(hu:P.underlying t=ah (.slice el))(he:E.ty el=ah te)(dL:fF E σ a w c){lo hi:az dz}{l h:aw}{A:az Addr}{n cp:aF}(hl:(oe lo 0).val σ=ah l)(hh:(oe hi n).val σ=ah h)(h0:0<=l)(h1:l<=h)(h2:h<=(cp:aw)):
  (qA t (.slice A n cp) (lo.map a.eval) (hi.map a.eval) aj).run P w= .ok (.slice (if cp=l.toNat then A else A.map (·.add (l.toNat*te.ks.length))) (h.toNat-l.toNat) (cp-l.toNat)) w:=by obtain⟨inf,mc,gi,_⟩:=hE.info el te he;simp only[qA,Instr.slice,cm,run_underlying hu,bG,C2 (P:=P) dL hl hh h0 h1 h2,sizeOf,typeInfo,program,nv,mc,gi,cU]
theorem uc{xs:aQ}{lo hi i:aF}:(eA xs lo hi)[i]? =if i<hi-lo then xs[lo+i]? else none:=by unfold eA;rw[ea];split<;>simp[dR]
theorem mC{xs:aQ}{lo hi:aF}(h:hi<=xs.length):(eA xs lo hi).length=hi-lo:=by unfold eA;simp;omega
theorem CE{xs:aQ}{lo hi:aF}{y:aA CV}(h:y∈eA xs lo hi):y∈xs:=kZ (k_ h)
theorem aea{K:aF->Prop}{v:bk}{el:aF}{xs:aQ}{te:TI}(he:E.ty el=ah te)(h:da E w K v (.l el xs)){lo hi:aF}(h1:lo<=hi)(h2:hi<=xs.length):
  ∃A n cp,v= .slice A n cp/\n=xs.length/\n<=cp\/∃A cp,v= .slice A 0 cp/\xs=[]:=by
 cases h with
 |nl=>exact⟨aj,0,0, .inr ⟨_,_,rfl,rfl⟩⟩
 |l _ _ b oo cp ti U ht hc=>exact⟨_,_,_, .inl ⟨rfl,rfl,hc⟩⟩
theorem E6{K:aF->Prop}{A:az Addr}{n cp el:aF}{xs:aQ}{te:TI}(he:E.ty el=ah te)(h:da E w K (.slice A n cp) (.l el xs)){lo hi:aF}(h1:lo<=hi)(h2:hi<=xs.length):
  n=xs.length/\da E w K (.slice (if cp=lo then A else A.map (·.add (lo*te.ks.length))) (hi-lo) (cp-lo)) (.l el (eA xs lo hi)):=by
 generalize hv:Value.slice A n cp=v at h;generalize hx:CV.l el xs=x at h;cases h with
 |i=>cases hx
 |b=>cases hx
 |s=>cases hx
 |nl=>
  cases hx;cases hv;have:hi=0:=by simpa using h2
  subst this;have:lo=0:=by omega
  subst this;exact⟨rfl, .nl _ _ _⟩
 |l _ _ b oo cp ti U ht hc hm hK hs hcell gh=>
  cases hx;cases hv;refine⟨rfl, ?_⟩
  obtain rfl:te=ti:=aJ (he.symm.trans ht);by_cases hz:hi-lo=0
  ·rw[hz];have:eA xs lo hi=[]:=by unfold eA;rw[hz];simp
   rw[this];exact .nl _ _ _
  ·rw[bH (by omega)];simp only[jf,Addr.n9];have hl:=mC (xs:=xs) (lo:=lo) h2;rw[<-hl];refine .l el (eA xs lo hi) b (oo+lo*te.ks.length) (cp-lo) te (λi j=>U (lo+i) j) ht (by rw[hl];omega) (by omega) hK (λy hy=>hs y (CE hy)) (λi j y x mc hj=> ?_) (λi j y x mc hj=> ?_)
   ·rw[uc]at mc;split at mc
    ·have:=hcell (lo+i) j y x mc hj;rw[<-this];congr 2;rw[dq];omega
    ·cases mc
   ·rw[uc]at mc;split at mc
    ·exact gh (lo+i) j y x mc hj
    ·cases mc
theorem Uy(hE:eH P E)(cg:Ok E σ w c)(dL:fF E σ a w c)(hd:∀d,o.dst=ah d->d<a.tmps.size){x:dz}{t:aF}{lo hi mx:az dz}(ho:o.op= .slice t x lo hi mx)(h:(mg E nm o).val σ=ah e)(hc:e.cond=ai):gY P E σ a w c o e.ws:=by
 simp only[mg,ho]at h;cases mx with
 |some m=>simp at h
 |none=>
 obtain⟨kk,hk,h⟩:=Rd.bind_some h;obtain⟨v,h1,h⟩:=Rd.bind_some h;obtain⟨⟨b,q⟩,h3,h⟩:=Rd.bind_some h;obtain⟨ev,kv⟩:=i_ dL h1;have exec:∀{u r:bk},a.eval x=u->(qA t u (lo.map a.eval) (hi.map a.eval) aj).run P w= .ok r w->(execOp a.eval o).run P w= .ok (.value r) w:=by intro u r hu hr;unfold execOp;rw[ho];exact i9 (by rw[hu];exact hr)
 cases kk with
 |s=>cases v with
  |s s=>have hu:=ll hE hk;obtain⟨l,hl,h3⟩:=Rd.bind_some h3;obtain⟨hh,A0,h3⟩:=Rd.bind_some h3;obtain⟨rfl,rfl⟩:=bW (aJ h3);obtain rfl:=aJ h;have hc:g7 l hh s.size=true:=hc;simp only[g7,aL,bf]at hc;obtain⟨⟨c0,c1⟩,c2⟩:=hc;exact gJ cg dL hd (s:= .v ak [.s _]) (v:= .string _) ⟨rfl,by have h5:=ev.2;unfold D8 at h5⊢;rw[yD];omega⟩ (λn hn=>by simp[cQ,bS]at hn) (exec ev.1 (LM (P:=P) hu dL hl A0 c0 c1 c2))
  |_=>simp[LR]at h3
 |l el=>
  have hu:=kM hE hk;obtain⟨te,Ld,h3⟩:=Rd.bind_some h3;have Ld:=dX Ld;cases v with
  |sh e' xs=>
   obtain⟨DY,h4⟩:=cS h3;have:=aU DY;subst this;obtain⟨l,hl,h4⟩:=Rd.bind_some h4;obtain⟨hh,A0,h4⟩:=Rd.bind_some h4;obtain⟨rfl,rfl⟩:=bW (aJ h4);obtain rfl:=aJ h;have hc:g7 l hh xs.length=true:=hc;simp only[g7,aL,bf]at hc;obtain⟨⟨c0,c1⟩,c2⟩:=hc;have ev:da E w c.K (a.eval x) (.l el xs):=ev;generalize hv:a.eval x=v at ev;cases ev with
   |nl _ A cp=>
    have h0:hh=0:=by simp at c2;omega
    have l0:l=0:=by omega
    subst h0;subst l0;have hr:=kQ (P:=P) (te:=te) hE hu Ld dL (A:=A) (n:=0) (cp:=cp) hl A0 (by omega) (by omega) (by omega);exact gJ cg dL hd (s:= .v ak [.sh el (eA [] (0:aw).toNat (0:aw).toNat)]) (.nl _ _ _) (λn hn=>by simp[cQ,bS]at hn) (exec hv hr)
   |l _ _ bb oo cp ti U ht Pn hmx hK hs hcell gh=>have hr:=kQ (P:=P) (te:=ti) hE hu ht dL (A:=ah (ad bb oo)) (cp:=cp) hl A0 c0 c1 (by omega);have arK:=(E6 (lo:=l.toNat) (hi:=hh.toNat) ht (.l el xs bb oo cp ti U ht Pn hmx hK hs hcell gh) (by omega) (by omega)).2;exact gJ cg dL hd (s:= .v ak [.sh el (eA xs l.toNat hh.toNat)]) arK (λn hn=>by simp[cQ,bS]at hn) (exec hv hr)
  |own iG=>
   obtain⟨ob,hg,h3⟩:=Rd.bind_some h3;have hg:=dA hg
   have main:∀(xs:aQ),(c.P iG).n=xs.length->((c.P iG).nil=ai->xs=[])->(∃ti,E.ty el=ah ti/\(c.P iG).sz=ti.ks.length)->((c.P iG).nil=ak->(c.P iG).n<=(c.P iG).cap)->
     ((oe lo 0).bind λl=>(oe hi xs.length).bind λh=>Rd.ret (g7 l h xs.length,AV.vw iG l.toNat h.toNat)).val σ=ah (b,q)->gY P E σ a w c o e.ws:=by
    intro xs hn jC XY hcp h4
    obtain⟨l,hl,h4⟩:=Rd.bind_some h4
    obtain⟨hh,A0,h4⟩:=Rd.bind_some h4
    obtain⟨rfl,rfl⟩:=bW (aJ h4)
    obtain rfl:=aJ h
    have hc:g7 l hh xs.length=true:=hc
    simp only[g7,aL,bf]at hc
    obtain⟨⟨c0,c1⟩,c2⟩:=hc
    obtain⟨ti,ht,gi⟩:=XY
    have ev:a.eval x=lT (c.P iG):=ev
    cases hq:(c.P iG).nil with
    |true=>
     rw[nK hq]at ev;have hx:=jC hq;subst hx;have h0:hh=0:=by simp at c2;omega
     have l0:l=0:=by omega
     subst h0;subst l0;have hr:=kQ (P:=P) (te:=ti) hE hu ht dL (A:=aj) (n:=0) (cp:=0) hl A0 (by omega) (by omega) (by simp);refine gJ cg dL hd (s:= .v ak [.vw iG 0 0]) (v:= .slice aj 0 0) ⟨cG _,bI _,λ_=>rfl,λhf=>by rw[hq]at hf;cases hf⟩ (λm hm=>by simp[cQ,bS]at hm;subst hm;rw[hg];simp) (exec ev (by simpa using hr))
    |false=>
     rw[fc hq]at ev;have hcp:=hcp hq;have hr:=kQ (P:=P) (te:=ti) hE hu ht dL (A:=ah (ad (c.P iG).blk (c.P iG).off)) (n:=(c.P iG).n) (cp:=(c.P iG).cap) hl (by rw[hn];exact A0) c0 c1 (by omega);refine gJ cg dL hd (s:= .v ak [.vw iG l.toNat hh.toNat]) ⟨by omega,by omega,λhf=>(by rw[hq]at hf;cases hf),λ_=> ?_⟩ (λm hm=>by simp[cQ,bS]at hm;subst hm;rw[hg];simp) (exec ev hr);by_cases hle:(c.P iG).cap=l.toNat
     ·refine .inr ⟨hle.symm,(c.P iG).off,by omega, ?_⟩;rw[bz hle,show hh.toNat-l.toNat=0 by omega,show(c.P iG).cap-l.toNat=0 by omega]
     ·refine .inl ⟨by omega, ?_⟩;rw[bH hle];simp only[jf,Addr.n9,gi]
   cases ob with
   |row e' ex xs=>obtain⟨DY,h4⟩:=cS h3;have:=aU DY;subst this;obtain⟨i1,i2,ti,i3,i4,i5⟩:=lu cg hg;exact main xs i1 i2 ⟨ti,i3,i4⟩ (λh=>(i5 h).1) h4
   |fU e' xs=>
    obtain⟨DY,h4⟩:=cS h3;have:=aU DY;subst this;obtain⟨i1,i2,i3⟩:=m7 cg hg;refine main xs i1 i2 i3 (λPt=> ?_) h4;obtain⟨j1,j2,_⟩:=cg.obj iG _ hg;rw[fc Pt]at j1;by_cases hz:0<xs.length
    ·obtain⟨t3,U,L⟩:=j1.Jq hz;rw[j2];exact L.cap
    ·omega
   |_=>simp at h3
  |vw iG D7 sr=>
   obtain⟨ob,hg,h3⟩:=Rd.bind_some h3;have hg:=dA hg
   have main:(∃ti,E.ty el=ah ti/\(c.P iG).sz=ti.ks.length)->((c.P iG).nil=ai->(c.P iG).n=0)->((c.P iG).nil=ak->(c.P iG).n<=(c.P iG).cap)->
     ((oe lo 0).bind λl=>(oe hi ((sr-D7:aF):aw)).bind λh=>Rd.ret (g7 l h ((sr-D7:aF):aw),AV.vw iG (D7+l.toNat) (D7+h.toNat))).val σ=ah (b,q)->gY P E σ a w c o e.ws:=by
    intro XY jC hcp h4
    obtain⟨l,hl,h4⟩:=Rd.bind_some h4
    obtain⟨hh,A0,h4⟩:=Rd.bind_some h4
    obtain⟨rfl,rfl⟩:=bW (aJ h4)
    obtain rfl:=aJ h
    have hc:g7 l hh ((sr-D7:aF):aw)=true:=hc
    simp only[g7,aL,bf]at hc
    obtain⟨⟨c0,c1⟩,c2⟩:=hc
    obtain⟨ti,ht,gi⟩:=XY
    obtain rfl:te=ti:=aJ (Ld.symm.trans ht)
    obtain⟨v1,v2,v3,v4⟩:=ev
    cases hq:(c.P iG).nil with
    |true=>
     have hz:=jC hq;have ex:=v3 hq;have hi0:sr=0:=by omega
     have lo0:D7=0:=by omega
     subst hi0;subst lo0;have h0:hh=0:=by simp at c2;omega
     have l0:l=0:=by omega
     subst h0;subst l0;have hr:=kQ (P:=P) (te:=te) hE hu ht dL (A:=aj) (n:=0) (cp:=0) hl (by simpa using A0) (by omega) (by omega) (by simp);refine gJ cg dL hd (s:= .v ak [.vw iG (0+(0:aw).toNat) (0+(0:aw).toNat)]) (v:= .slice aj 0 0) ⟨cG _,bI _,λ_=>rfl,λhf=>by rw[hq]at hf;cases hf⟩ (λm hm=>by simp[cQ,bS]at hm;subst hm;rw[hg];simp) (exec ex (by simpa using hr))
    |false=>
     have hcp:=hcp hq;rcases v4 hq with ⟨u1,ex⟩|⟨u1,oo,u2,ex⟩
     ·have hr:=kQ (P:=P) (te:=te) hE hu ht dL (A:=ah (ad (c.P iG).blk ((c.P iG).off+D7*(c.P iG).sz))) (n:=sr-D7) (cp:=(c.P iG).cap-D7) hl A0 c0 c1 (by omega);refine gJ cg dL hd (s:= .v ak [.vw iG (D7+l.toNat) (D7+hh.toNat)]) ⟨by omega,by omega,λhf=>(by rw[hq]at hf;cases hf),λ_=> ?_⟩ (λm hm=>by simp[cQ,bS]at hm;subst hm;rw[hg];simp) (exec ex hr);by_cases hle:(c.P iG).cap-D7=l.toNat
      ·refine .inr ⟨by omega,(c.P iG).off+D7*(c.P iG).sz, ?_, ?_⟩
       ·have:=b8 (c.P iG).sz (Nat.le_of_lt u1);omega
       ·rw[bz hle,show hh.toNat-l.toNat=0 by omega,show(c.P iG).cap-D7-l.toNat=0 by omega]
      ·refine .inl ⟨by omega, ?_⟩;rw[bH hle];simp only[jf,Addr.n9,gi];rw[show D7+hh.toNat-(D7+l.toNat)=hh.toNat-l.toNat by omega,show(c.P iG).cap-(D7+l.toNat)=(c.P iG).cap-D7-l.toNat by omega,dq,l_]
     ·have hr:=kQ (P:=P) (te:=te) hE hu ht dL (A:=ah (ad (c.P iG).blk oo)) (n:=0) (cp:=0) hl (by rw[show sr-D7=0 by omega]at A0;exact A0) c0 c1 (by omega);have h0:hh=0:=by omega
      have l0:l=0:=by omega
      subst h0;subst l0;refine gJ cg dL hd (s:= .v ak [.vw iG (D7+(0:aw).toNat) (D7+(0:aw).toNat)]) (v:= .slice (ah (ad (c.P iG).blk oo)) 0 0) ⟨cG _,by simp;omega,λhf=>(by rw[hq]at hf;cases hf),λ_=> .inr ⟨by simpa using u1,oo,u2,rfl⟩⟩ (λm hm=>by simp[cQ,bS]at hm;subst hm;rw[hg];simp) (exec ex (by simpa using hr))
   cases ob with
   |row e' ex xs=>obtain⟨DY,h4⟩:=cS h3;have:=aU DY;subst this;obtain⟨i1,i2,ti,i3,i4,i5⟩:=lu cg hg;exact main ⟨ti,i3,i4⟩ (λhn=>by rw[i1,i2 hn];rfl) (λh=>(i5 h).1) h4
   |fU e' xs=>
    obtain⟨DY,h4⟩:=cS h3;have:=aU DY;subst this;obtain⟨i1,i2,i3⟩:=m7 cg hg;refine main i3 (λhn=>by rw[i1,i2 hn];rfl) (λPt=> ?_) h4;obtain⟨j1,j2,_⟩:=cg.obj iG _ hg;rw[fc Pt]at j1;by_cases hz:0<xs.length
    ·obtain⟨t3,U,L⟩:=j1.Jq hz;rw[j2];exact L.cap
    ·omega
   |_=>simp at h3
  |nl=>
   obtain⟨l,hl,h4⟩:=Rd.bind_some h3;obtain⟨hh,A0,h4⟩:=Rd.bind_some h4;obtain⟨rfl,rfl⟩:=bW (aJ h4);obtain rfl:=aJ h;have hc:g7 l hh 0=true:=hc;simp only[g7,aL,bf]at hc;obtain⟨⟨c0,c1⟩,c2⟩:=hc;have h0:hh=0:=by omega
   have l0:l=0:=by omega
   subst h0;subst l0;have hr:=kQ (P:=P) (te:=te) hE hu Ld dL (A:=aj) (n:=0) (cp:=0) hl A0 (by omega) (by omega) (by simp);exact gJ cg dL hd (s:= .v ak [.nl]) (v:= .slice aj 0 0) rfl (λn hn=>by simp[cQ,bS]at hn) (exec ev (by simpa using hr))
  |_=>simp[U7]at h3
 |_=>simp[LR]at h3
end
end Go.FG

namespace Go.FG
section
variable {P:c6} {E:fS} {σ:St} {a:Act} {w:bL} {c:e_} {o:fD} {nm:aF} {e:s5}
theorem P6(cg:Ok E σ w c){x:AV}{v:bk}(hx:eM E w c x v){el:aF}{xs:aQ}(h:(mF E x).val σ=ah (el,xs)):∃A cp,v= .slice A xs.length cp:=by
 cases x with
 |sh e' ys=>
  obtain⟨rfl,rfl⟩:=bW (aJ h);have hx:da E w c.K v (.l e' ys):=hx;cases hx with
  |nl=>exact⟨_,_,rfl⟩
  |l=>exact⟨_,_,rfl⟩
 |own n=>
  obtain⟨ob,hg,h⟩:=Rd.bind_some h;have hg:=dA hg;have hx:v=lT (c.P n):=hx;have main:∀ys:aQ,(c.P n).n=ys.length->((c.P n).nil=ai->ys=[])->∃A cp,v= .slice A ys.length cp:=by
   intro ys h1 h2;cases hq:(c.P n).nil with
   |true=>rw[hx,nK hq,h2 hq];exact⟨_,_,rfl⟩
   |false=>rw[hx,fc hq,h1];exact⟨_,_,rfl⟩
  cases ob with
  |row e' ex ys=>obtain⟨rfl,rfl⟩:=bW (aJ h);obtain⟨i1,i2,_⟩:=lu cg hg;exact main _ i1 i2
  |fU e' ys=>obtain⟨rfl,rfl⟩:=bW (aJ h);obtain⟨i1,i2,_⟩:=m7 cg hg;exact main _ i1 i2
  |_=>simp at h
 |vw n lo hi=>
  obtain⟨ob,hg,h⟩:=Rd.bind_some h;have hg:=dA hg;obtain⟨v1,v2,v3,v4⟩:=hx;have main:∀ys:aQ,(c.P n).n=ys.length->((c.P n).nil=ai->ys=[])->((c.P n).nil=ak->(c.P n).n<=(c.P n).cap)->∃A cp,v= .slice A (eA ys lo hi).length cp:=by
   intro ys h1 h2 h3;rw[mC (by omega)];cases hq:(c.P n).nil with
   |true=>have:=h2 hq;subst this;rw[v3 hq,show hi-lo=0 by simp at h1;omega];exact⟨_,_,rfl⟩
   |false=>
    rcases v4 hq with ⟨_,h⟩|⟨u1,oo,_,h⟩
    ·rw[h];exact⟨_,_,rfl⟩
    ·have:=h3 hq;rw[h,show hi-lo=0 by omega];exact⟨_,_,rfl⟩
  cases ob with
  |row e' ex ys=>obtain⟨rfl,rfl⟩:=bW (aJ h);obtain⟨i1,i2,ti,_,_,i5⟩:=lu cg hg;exact main _ i1 i2 (λh=>(i5 h).1)
  |fU e' ys=>
   obtain⟨rfl,rfl⟩:=bW (aJ h);obtain⟨i1,i2,_⟩:=m7 cg hg;refine main _ i1 i2 (λPt=> ?_);obtain⟨j1,j2,_⟩:=cg.obj n _ hg;rw[fc Pt]at j1;by_cases hz:0<ys.length
   ·obtain⟨t3,U,L⟩:=j1.Jq hz;rw[j2];exact L.cap
   ·omega
  |_=>simp at h
 |inn n i j=>
  obtain⟨ob,hg,h⟩:=Rd.bind_some h;have hg:=dA hg;cases ob with
  |row e' ex ys=>
   cases ex with
   |false=>simp at h
   |true=>
   obtain⟨te,ht,h⟩:=Rd.bind_some h;have ht:=dX ht;split at h
   ·rename_i e2 Aj;obtain⟨rfl,rfl⟩:=bW (aJ h);obtain⟨⟨me,hx⟩,_⟩:=hx;obtain⟨⟨tj,htj,gi,mN⟩,gg,_⟩:=cg.obj n _ hg;obtain rfl:te=tj:=aJ (ht.symm.trans htj);obtain⟨zs,y',hy,hyj,uu,_,tk,G_,sV,Lc,D3,oQ⟩:=uL (c:=c) gg mN me Aj;rw[fH hy hyj];cases hq:(c.G n i j).nil with
    |true=>rw[hx,nK hq,show jx (.l e2 zs)=zs from rfl,(oQ.nil hq).1];exact⟨_,_,rfl⟩
    |false=>rw[hx,fc hq,oQ.n];exact⟨_,_,rfl⟩
   ·simp at h
  |_=>simp at h
 |_=>simp[mF]at h
theorem mV{cl:Call}{b:Builtin}(ho:o.op= .call cl)(hb:cl.callee= .builtin b):
  ∃cs,(execOp a.eval o).run P w=(builtin b cl.argTypes o.type cs (cl.args.map a.eval)).run P w:=by unfold execOp;rw[ho];simp only[resolve,hb,cm,cU,bG,invoke];exact⟨_,rfl⟩
theorem nH{α:Type}{x:dv α}{y:α}(h:x.toList=[y]):x= #[y]:=by apply sE;simpa using h
theorem Df{α:Type}{x:dv α}{y z:α}(h:x.toList=[y,z]):x= #[y,z]:=by apply sE;simpa using h
theorem ago(hE:eH P E)(cg:Ok E σ w c)(dL:fF E σ a w c)(hd:∀d,o.dst=ah d->d<a.tmps.size){cl:Call}(ho:o.op= .call cl)(hb:cl.callee= .builtin .len)(h:(mg E nm o).val σ=ah e):gY P E σ a w c o e.ws:=by
 simp only[mg,ho,hb]at h;split at h
 ·rename_i x t hx ht;obtain⟨k,hk,h⟩:=Rd.bind_some h;obtain⟨v,h1,h⟩:=Rd.bind_some h;obtain⟨n,h2,h⟩:=Rd.bind_some h;obtain⟨ev,kv⟩:=i_ dL h1;have hx:=nH hx;have ht:=nH ht;have exec:∀r,(wz #[t] o.type #[a.eval x]).run P w= .ok r w->(execOp a.eval o).run P w= .ok (.value r) w:=by intro r hr;obtain⟨cs,HY⟩:=mV (P:=P) (a:=a) (w:=w) ho hb;rw[HY,hx,ht];simp only[builtin,DE,fE,BU];exact i9 hr
  have fin:∀m:aF,n=m->(wz #[t] o.type #[a.eval x]).run P w= .ok (goInt m) w->gY P E σ a w c o e.ws:=by intro m hm hr;subst hm;exact fY cg dL hd h (v:=goInt m) rfl (λn hn=>by simp[cQ,bS]at hn) (exec _ hr)
  cases k with
  |s=>cases v with
   |s s=>obtain rfl:=aJ h2;have ev:a.eval x= .string s:=ev.1;exact fin s.size rfl (by rw[ev];simp[wz,run_underlying (ll hE hk)])
   |_=>simp[afJ]at h2
  |l el=>
   have hu:=kM hE hk;have sl:∀A (m:aF) cp,a.eval x= .slice A m cp->n=m->gY P E σ a w c o e.ws:=by intro A m cp hv hn;exact fin m hn (by rw[hv];simp[wz,run_underlying hu])
   have gen:∀(el':aF) (xs:aQ),(mF E v).val σ=ah (el',xs)->n=xs.length->gY P E σ a w c o e.ws:=by intro el' xs hr hn;obtain⟨A,cp,hv⟩:=P6 cg ev hr;exact sl _ _ _ hv hn
   cases v with
   |nl=>obtain rfl:=aJ h2;exact sl aj 0 0 ev rfl
   |vw m lo hi=>
    obtain⟨ob,hg,h2⟩:=Rd.bind_some h2;have hg:=dA hg;have r1:∃(e1:aF) (ys:aQ),(mF E (.vw m lo hi)).val σ=ah (e1,eA ys lo hi)/\(c.P m).n=ys.length/\n=((hi-lo:aF):aw):=by
     cases ob with
     |row e1 ex ys=>exact⟨e1,ys,by simp[mF,jO,hg],(lu cg hg).1,(aJ h2).symm⟩
     |fU e1 ys=>exact⟨e1,ys,by simp[mF,jO,hg],(m7 cg hg).1,(aJ h2).symm⟩
     |_=>simp at h2
    obtain⟨e1,ys,h5,h6,h7⟩:=r1;refine gen e1 _ h5 ?_;rw[mC (by have:=ev.2.1;omega)];exact h7
   |_=>obtain⟨⟨el',xs⟩,hr,h3⟩:=Rd.bind_some h2;obtain rfl:=aJ h3;exact gen el' xs hr rfl
  |_=>simp[afJ]at h2
 ·simp at h
end
end Go.FG

namespace Go.FG
section
variable {P:c6} {E:fS} {σ:St} {a:Act} {w:bL} {c:e_} {o:fD} {nm:aF} {e:s5}
theorem zK{α:Type}{x:az α}{σ:St}{r:α}(h:(UA x).val σ=ah r):x=ah r:=by
 cases x with
 |none=>simp[UA]at h
 |some y=>exact h
theorem agn(hE:eH P E)(cg:Ok E σ w c)(dL:fF E σ a w c)(hd:∀d,o.dst=ah d->d<a.tmps.size){cl:Call}(ho:o.op= .call cl)(hb:cl.callee= .builtin .cap)(h:(mg E nm o).val σ=ah e):gY P E σ a w c o e.ws:=by
 simp only[mg,ho,hb]at h;split at h
 ·rename_i x t hx ht;obtain⟨k,hk,h⟩:=Rd.bind_some h;have hx:=nH hx;have ht:=nH ht;cases k with
  |l el=>
   obtain⟨v,h1,h⟩:=Rd.bind_some h;obtain⟨ev,kv⟩:=i_ dL h1;have hu:=kM hE hk;cases v with
   |nl=>refine fY cg dL hd h (v:=goInt 0) rfl (λn hn=>by simp[cQ,bS]at hn) ?_;obtain⟨cs,HY⟩:=mV (P:=P) (a:=a) (w:=w) ho hb;rw[HY,hx,ht];simp only[builtin,DE,fE,BU];refine i9 ?_;rw[show a.eval x= .slice aj 0 0 from ev];simp[Builtin.cap_,run_underlying hu]
   |_=>simp at h
  |_=>simp at h
 ·simp at h
theorem Lp(dL:fF E σ a w c)(mx:aX):∀(r:aA dz) (k:nu) (n:aw) (v:AV),(xN mx r k n).val σ=ah v->
  ∃m,v= .i k m/\((r.map a.eval).foldlM (if mx then Eo else Ep) (.int k n)).run P w= .ok (.int k m) w:=by
 intro r;induction r with
 |nil=>intro k n v h;obtain rfl:=aJ h;exact⟨n,rfl,rfl⟩
 |cons x r ih=>
  intro k n v h;obtain⟨⟨k2,m⟩,h1,h2⟩:=Rd.bind_some h;have hx:=pZ dL h1;obtain⟨q,hq,hr⟩:=ih k (iu mx n m) v h2;refine⟨q,hq, ?_⟩
  simp only[fE,List.foldlM_cons,cm,hx];cases mx with
  |true=>
   have:(Eo (.int k n) (.int k2 m)).run P w= .ok (.int k (iu ai n m)) w:=by simp[Eo,iu]
   simp only[if_true,this,bG]at hr⊢;exact hr
  |false=>
   have:(Ep (.int k n) (.int k2 m)).run P w= .ok (.int k (iu ak n m)) w:=by simp[Ep,iu]
   simp only[dy,if_false,this,bG]at hr⊢;exact hr
theorem Fk(mx:aX)(cg:Ok E σ w c)(dL:fF E σ a w c)(hd:∀d,o.dst=ah d->d<a.tmps.size){cl:Call}(ho:o.op= .call cl)(hb:cl.callee= .builtin (if mx then .max else .min))(h:(mg E nm o).val σ=ah e):gY P E σ a w c o e.ws:=by
 have main:∀x r,cl.args.toList=x::r->((CM x).bind λ(k,n)=>(xN mx r k n).bind λv=>zV o v).val σ=ah e->gY P E σ a w c o e.ws:=by
  intro x r hx h;obtain⟨⟨k,n⟩,h1,h⟩:=Rd.bind_some h;obtain⟨v,h2,h⟩:=Rd.bind_some h;have ex:=pZ dL h1;obtain⟨m,rfl,hr⟩:=Lp (P:=P) dL mx r k n v h2;refine fY cg dL hd h (v:= .int k m) rfl (λn hn=>by simp[cQ,bS]at hn) ?_;obtain⟨cs,HY⟩:=mV (P:=P) (a:=a) (w:=w) ho hb;have sq:cl.args.map a.eval=((x::r).map a.eval).toArray:=by rw[<-hx];apply sE;simp
  rw[HY,sq];cases mx with
  |true=>simp only[if_true,builtin];refine i9 ?_;simp only[Builtin.max_,fE,ex];exact hr
  |false=>simp only[dy,if_false,builtin];refine i9 ?_;simp only[Builtin.min_,fE,ex];exact hr
 cases mx with
 |true=>
  simp only[mg,ho,hb,if_true]at h;split at h
  ·rename_i x r hx;exact main x r hx h
  ·simp at h
 |false=>
  simp only[mg,ho,hb,dy,if_false]at h;split at h
  ·rename_i x r hx;exact main x r hx h
  ·simp at h
theorem U0{op:BinOp}{t:aF}{k:nu}{m n:aw}{b:aX}{v:AV}(hs:PA op=ak)(h:aeI op k m n=ah (b,v))(hb:b=ai):
  ∃u,eM E w c v u/\bS v=[]/\(binOp op t (.int k m) (.int k n)).run P w= .ok u w:=by
 subst hb;cases op<;>simp only[aeI,jD,jg,true_and,reduceCtorEq]at h<;>first|(simp[PA]at hs;done)|skip
 case quo=>
  obtain⟨h1,rfl⟩:=h
  have hn:¬n=0:=by simpa using h1
  exact⟨_,rfl,rfl,by simp[binOp,Op.intDiv,hn]⟩
 case rem=>
  obtain⟨h1,rfl⟩:=h
  have hn:¬n=0:=by simpa using h1
  exact⟨_,rfl,rfl,by simp[binOp,Op.intDiv,hn]⟩
 all_goals (subst h;exact⟨_,rfl,rfl,by simp[binOp,Op.intArith,Op.intBits,Op.intCmp]⟩)
theorem U1{op:BinOp}{t:aF}{m n:aq}{b:aX}{v:AV}(hs:PA op=ak)(h:aeK op m n=ah (b,v))(hb:b=ai):
  ∃u,eM E w c v u/\bS v=[]/\(binOp op t (.string m) (.string n)).run P w= .ok u w:=by
 subst hb;cases op<;>simp only[aeK,jD,jg,true_and,reduceCtorEq]at h<;>first|(simp[PA]at hs;done)|skip
 case add=>
  obtain⟨h1,rfl⟩:=h
  have h1:=cu h1
  refine⟨_,⟨rfl,by unfold D8;rw[dK];omega⟩,rfl, ?_⟩
  have:¬(((m.size+n.size:aF):aw)>ao.max):=by
   have:ao.max=9223372036854775807:=by decide
   omega
  simp only[binOp,Op.stringOp,bH this,cU]
 all_goals (subst h;exact⟨_,rfl,rfl,by simp[binOp,Op.stringOp]⟩)
theorem xY{op:BinOp}{t:aF}{x y:dz}{u v:bk}(hu:∀xs,u≠ .agg xs)(hn:u≠ .nilIface):(eqGuard op t x y u v).run P w= .ok () w:=by unfold eqGuard;cases op<;>cases u<;>first|rfl|(exact cK rfl (hu _))|(exact cK rfl hn)|(cases v<;>rfl)
theorem xX{P:c6}(w:bL){t:aF}(h:P.underlying t=ah .bool)(m n:aX):(binOp .eql t (.bool m) (.bool n)).run P w= .ok (.bool (m==n)) w/\(binOp .neq t (.bool m) (.bool n)).run P w= .ok (.bool !(m==n)) w:=by
 have h1:(Op.equal t (.bool m) (.bool n)).run P w= .ok (m==n) w:=by show(Op.equalIn (9999+1) t (.bool m) (.bool n)).run P w=_;exact run_equalIn_bool w 9999 t m n h
 simp only[binOp,cm,h1,bG,cU];exact⟨trivial,trivial⟩
theorem CX{xs:aA AV}{ks:aA Ck}(hk:xs.map Hb=ks)(hp:plain ks=ai){vals:dv bk}(hs:vals.size=xs.length)(hv:∀(j:aF) (a:AV),xs[j]? =ah a->∃u:bk,vals[j]? =ah u/\eM E w c a u):vals=(xs.map lZ).toArray:=by
 apply sE;apply Wg;intro j;simp only[cZ,bK];cases hx:xs[j]? with
 |none=>have:=List.getElem?_eq_none_iff.1 hx;simp;omega
 |some a=>
  obtain⟨u,hu,ha⟩:=hv j a hx;rw[hu];have hm:Hb a∈ks:=by rw[<-hk];exact cX.2 ⟨a,aR hx,rfl⟩
  have mJ:=bu.1 hp _ hm;cases a<;>simp[Hb]at mJ<;>first|(have h1:u=_:=ha;rw[h1];rfl)|(have h1:u=_:=ha.1;rw[h1];rfl)
theorem Xi(hE:eH P E){op:BinOp}{t:aF}{x y:dz}{sx sy:SV}{ux uy:bk}(ex:jk E w c sx ux)(ey:jk E w c sy uy){b:aX}{v:AV}(h3:(aeJ E t op sx sy).val σ=ah (b,v))(hc:b=ai):
  ∃u,eM E w c v u/\bS v=[]/\(do eqGuard op t x y ux uy;binOp op t ux uy).run P w= .ok u w:=by
 have fin:∀u,eM E w c v u->bS v=[]->(do eqGuard op t x y ux uy;binOp op t ux uy).run P w= .ok u w->∃u,eM E w c v u/\bS v=[]/\(do eqGuard op t x y ux uy;binOp op t ux uy).run P w= .ok u w:=
  λu hu hn hr=>⟨u,hu,hn,hr⟩
 have pl:∀u1 u2 r,ux=u1->uy=u2->(∀xs,u1≠ .agg xs)->u1≠ .nilIface->(binOp op t u1 u2).run P w= .ok r w->(do eqGuard op t x y ux uy;binOp op t ux uy).run P w= .ok r w:=by intro u1 u2 r h1 h2 h3 h4 h5;rw[h1,h2];simp only[cm,xY (P:=P) (w:=w) (op:=op) (t:=t) (x:=x) (y:=y) (v:=u2) h3 h4,bG,h5]
 unfold aeJ at h3;split at h3
 ·rename_i p q;have ex:eM E w c p ux:=ex;have ey:eM E w c q uy:=ey;cases mN:PA op with
  |true=>
   rw[mN]at h3;replace h3:=zK h3;cases p<;>cases q<;>first|(simp[shV]at h3;done)|skip
   cases op<;>simp only[shV,jD,jg,reduceCtorEq]at h3<;>(obtain⟨rfl,rfl⟩:=h3)
   ·refine fin _ rfl rfl (pl _ _ _ ex ey (by simp) (by simp) ?_);have:¬(_:aw)<0:=Int.not_lt.2 (cu hc);simp[binOp,Op.shift,this]
   ·refine fin _ rfl rfl (pl _ _ _ ex ey (by simp) (by simp) ?_);have:¬(_:aw)<0:=Int.not_lt.2 (cu hc);simp[binOp,Op.shift,this]
  |false=>
   rw[mN]at h3;obtain⟨k,hk,h3⟩:=Rd.bind_some h3;replace h3:=zK h3;cases p with
   |i k1 m=>
    cases q with
    |i k2 n=>
     have h9:=h3;simp only[KB]at h9;split at h9
     ·rename_i SU;subst SU;obtain⟨u,hu,hn,hr⟩:=U0 (P:=P) (t:=t) (E:=E) (c:=c) (w:=w) mN h9 hc;exact fin u hu hn (pl _ _ _ ex ey (by simp) (by simp) hr)
     ·cases h9
    |_=>simp[KB]at h3
   |s m=>
    cases q with
    |s n=>obtain⟨u,hu,hn,hr⟩:=U1 (P:=P) (t:=t) (E:=E) (c:=c) (w:=w) mN h3 hc;exact fin u hu hn (pl _ _ _ ex.1 ey.1 (by simp) (by simp) hr)
    |_=>simp[KB]at h3
   |b m=>
    cases q with
    |b n=>
     have aa3:k= .b->P.underlying t=ah .bool:=by rintro rfl;obtain⟨ti,q1,q2,q3⟩:=rQ hk;obtain⟨d,hd',_,hn⟩:=hE.desc t ti q1;rcases hn q2 with ⟨k,h,_⟩|⟨h,rfl⟩|⟨h,_⟩|⟨e',h,_⟩|⟨h,_⟩<;>rw[q3]at h<;>simp_all
     cases op<;>cases k<;>simp only[KB,jD,jg,reduceCtorEq]at h3<;>(obtain⟨rfl,rfl⟩:=h3)
     ·refine fin _ rfl rfl (pl _ _ _ ex ey (by simp) (by simp) ?_);exact(xX (P:=P) w (aa3 rfl) _ _).1
     ·refine fin _ rfl rfl (pl _ _ _ ex ey (by simp) (by simp) ?_);exact(xX (P:=P) w (aa3 rfl) _ _).2
    |_=>simp[KB]at h3
   |_=>simp[KB]at h3
 ·rename_i xs ys;obtain⟨ti,ht,h3⟩:=Rd.bind_some h3;have ht:=dX ht;obtain⟨h4,h3⟩:=cS h3;simp only[aL]at h4;obtain⟨⟨⟨⟨h5,h6⟩,h7⟩,h8⟩,h9⟩:=h4;have h7:=rN h7;have h8:=rN h8;replace h3:=zK h3;obtain⟨X,hX,sX,vX⟩:=ex;obtain⟨Y,hY,sY,vY⟩:=ey;have eX:=CX h7 h9 sX vX;have eY:=CX h8 h9 sY vY;cases hq:Xv xs ys with
  |none=>rw[hq]at h3;cases h3
  |some r=>
   rw[hq]at h3;obtain⟨r1,r2⟩:=hE.eq t ti h6 ht w x y xs ys r hq h7 h8;cases op<;>first|(simp[isEq]at h5;done)|skip
   ·obtain⟨_,rfl⟩:=bW (aJ h3);exact fin _ rfl rfl (by rw[hX,hY,eX,eY];exact r1)
   ·obtain⟨_,rfl⟩:=bW (aJ h3);exact fin _ rfl rfl (by rw[hX,hY,eX,eY];exact r2)
 ·simp at h3
theorem Ut(hE:eH P E)(cg:Ok E σ w c)(dL:fF E σ a w c)(hd:∀d,o.dst=ah d->d<a.tmps.size){op:BinOp}{t ty:aF}{x y:dz}(ho:o.op= .binOp op t x y ty)(h:(mg E nm o).val σ=ah e)(hc:e.cond=ai):gY P E σ a w c o e.ws:=by simp only[mg,ho]at h;obtain⟨sx,h1,h⟩:=Rd.bind_some h;obtain⟨sy,h2,h⟩:=Rd.bind_some h;obtain⟨⟨b,v⟩,h3,h⟩:=Rd.bind_some h;obtain rfl:=aJ h;obtain⟨u,hu,hn,hr⟩:=Xi (P:=P) (x:=x) (y:=y) hE (mw dL h1).1 (mw dL h2).1 h3 hc;refine gJ cg dL hd (s:= .v ak [v]) hu (λn kK=>by simp[cQ,hn]at kK) ?_;unfold execOp;rw[ho];exact i9 hr
end
end Go.FG

namespace Go.FG
theorem L_{p:Pl}(hn:p.nil=ak->p.n<=p.cap)(hz:p.nil=ai->p.n=0):wV p 0 p.n (lT p):=by
 refine⟨bI _,cG _,λh=>nK h,λh=> ?_⟩
 rw[fc h];by_cases hc:p.cap=0
 ·refine .inr ⟨hc.symm,p.off,Nat.le_add_right _ _, ?_⟩;have:=hn h;rw[hc,show p.n=0 by omega]
 ·refine .inl ⟨by omega, ?_⟩;simp
theorem qV(xs:aQ):eA xs 0 xs.length=xs:=by unfold eA;simp
def ov(w:bL)(v:bk)(xs:aQ)(sz:aF)(R:aF->aF->bk->CV->Prop):Prop:=
 ∃A cp,v= .slice A xs.length cp/\(xs≠[]->∃b o,A=ah (ad b o)/\∀(i:aF) (y:aA CV) (j:aF) (x:CV),xs[i]? =ah y->y[j]? =ah x->∃u:bk,w.cell? (ad b (o+i*sz+j))=ah u/\R i j u x)
theorem ov.imp{w:bL}{v:bk}{xs:aQ}{sz:aF}{R R':aF->aF->bk->CV->Prop}(h:ov w v xs sz R)(hR:∀(i:aF) (y:aA CV) (j:aF) (x:CV) (u:bk),xs[i]? =ah y->y[j]? =ah x->R i j u x->R' i j u x):ov w v xs sz R':=by
 obtain⟨A,cp,h1,h2⟩:=h;refine⟨A,cp,h1,λiA=> ?_⟩
 obtain⟨b,o,h3,h4⟩:=h2 iA;refine⟨b,o,h3,λi y j x hi hj=> ?_⟩
 obtain⟨u,hu,hr⟩:=h4 i y j x hi hj;exact⟨u,hu,hR i y j x u hi hj hr⟩
theorem L4{w:bL}{p:Pl}{xs:aQ}{R:aF->aF->bk->CV->Prop}{lo hi:aF}{v:bk}(h:jj w p xs R)(hv:wV p lo hi v):ov w v (eA xs lo hi) p.sz (λi j u x=>R (lo+i) j u x):=by
 obtain⟨v1,v2,v3,v4⟩:=hv;have hl:=mC (xs:=xs) (lo:=lo) (hi:=hi) (by rw[<-h.n];exact v2);cases hq:p.nil with
 |true=>
  have hx:=(h.nil hq).1;have h0:=h.n;rw[hx]at h0;refine⟨aj,0, ?_,λiA=>cK (by rw[hx];unfold eA;simp) iA⟩
  rw[v3 hq,hl];have:p.n=0:=h0;congr 1;omega
 |false=>
  obtain⟨vals,hb,SX,XK,mI,hc⟩:=h.mem hq;rcases v4 hq with ⟨u1,rfl⟩|⟨u1,oo,u2,rfl⟩
  ·refine⟨_,_,by rw[hl],λiA=>⟨_,_,rfl,λi y j x mc hj=> ?_⟩⟩
   rw[uc]at mc;split at mc
   ·obtain⟨u,hu,hr⟩:=hc (lo+i) y j x mc hj;refine⟨u, ?_,hr⟩
    rw[hb.cell,<-hu];congr 1;rw[dq];omega
   ·cases mc
  ·have h0:hi-lo=0:=by omega
   refine⟨_,_,by rw[hl,h0],λiA=>cK (gf (hl.trans h0)) iA⟩
theorem Jf{E:fS}{w:bL}{K:aF->Prop}{p:Pl}{e:aF}{te:TI}{xs:aQ}(he:E.ty e=ah te)(h:da E w K (lT p) (.l e xs))(hn:p.n=xs.length)(hs:p.sz=te.ks.length){lo hi:aF}{v:bk}(hv:wV p lo hi v):da E w K v (.l e (eA xs lo hi)):=by
 obtain⟨v1,v2,v3,v4⟩:=hv;have hl:=mC (xs:=xs) (lo:=lo) (hi:=hi) (by rw[<-hn];exact v2);have nil:hi-lo=0->eA xs lo hi=[]:=λh0=>gf (hl.trans h0);cases hq:p.nil with
 |true=>
  rw[nK hq]at h;have hx:xs=[]:=by cases h;rfl
  subst hx;have hn:p.n=0:=hn;rw[v3 hq,nil (by omega)];exact .nl _ _ _
 |false=>
  rw[fc hq]at h;rcases v4 hq with ⟨u1,rfl⟩|⟨u1,oo,u2,rfl⟩
  ·have:=(E6 (lo:=lo) (hi:=hi) he h v1 (by rw[<-hn];exact v2)).2;rw[bH (by omega)]at this;simpa only[jf,Addr.n9,hs]using this
  ·by_cases hz:hi-lo=0
   ·rw[nil hz];exact .nl _ _ _
   ·have h1:0<xs.length:=by omega
    obtain⟨t3,U,L⟩:=h.Jq h1;have:=L.cap;omega
theorem zR{E:fS}{w:bL}{K:aF->Prop}{v:bk}{e:aF}{te:TI}{xs:aQ}(he:E.ty e=ah te)(h:da E w K v (.l e xs)):ov w v xs te.ks.length (λ_ _ u x=>da E w K u x)/\∀y∈xs,y.map CV.kd=te.ks:=by
 cases h with
 |nl=>exact⟨⟨_,_,rfl,λh=>cK rfl h⟩,λy hy=>by cases hy⟩
 |l _ _ b o cp ti U ht hc hm hK hs hcell gh=>obtain rfl:te=ti:=aJ (he.symm.trans ht);exact⟨⟨_,_,rfl,λ_=>⟨b,o,rfl,λi y j x hi hj=>⟨U i j,hcell i j y x hi hj,gh i j y x hi hj⟩⟩⟩,hs⟩
theorem pA{E:fS}{w:bL}{K:aF->Prop}{u:bk}{x:CV}(h:da E w K u x)(hl:uD x=ak):Sc u x:=by
 cases h with
 |i=>exact⟨rfl,trivial⟩
 |b=>exact⟨rfl,trivial⟩
 |s _ h=>exact⟨rfl,h⟩
 |nl=>simp[uD]at hl
 |l=>simp[uD]at hl
theorem kR{E:fS}{w:bL}{K:aF->Prop}{u:bk}{x:CV}(hl:uD x=ak)(h:Sc u x):da E w K u x:=by
 obtain⟨h1,h2⟩:=h;subst h1;cases x with
 |i k n=>exact .i k n
 |b x=>exact .b x
 |s x=>exact .s x h2
 |l=>simp[uD]at hl
theorem uO{E:fS}{w:bL}{G:aF->aF->Pl}{i j:aF}{u:bk}{x:CV}(h:XC E w G i j u x)(hl:uD x=ak):Sc u x:=by
 cases x with
 |l=>simp[uD]at hl
 |i=>exact h
 |b=>exact h
 |s=>exact h
theorem uM{E:fS}{w:bL}{G:aF->aF->Pl}{i j:aF}{u:bk}{x:CV}(hl:uD x=ak)(h:Sc u x):XC E w G i j u x:=by
 cases x with
 |l=>simp[uD]at hl
 |i=>exact h
 |b=>exact h
 |s=>exact h
theorem ov.list{w:bL}{v:bk}{xs:aQ}{sz:aF}{R:aF->aF->bk->CV->Prop}(h:ov w v xs sz R)(hs:∀y∈xs,y.length=sz):
  ∃(A:az Addr) (cp:aF) (news:aA bk),v= .slice A xs.length cp/\news.length=xs.length*sz/\(xs=[]\/∃b o,A=ah (ad b o)/\∀j u,news[j]? =ah u->w.cell? (ad b (o+j))=ah u)/\
   ∀(i:aF) (y:aA CV) (j:aF) (x:CV),xs[i]? =ah y->y[j]? =ah x->∃u:bk,news[i*sz+j]? =ah u/\R i j u x:=by
 obtain⟨A,cp,rfl,h2⟩:=h;by_cases hx:xs=[]
 ·subst hx;exact⟨A,cp,[],rfl,by simp, .inl rfl,λi y j x hi hj=>by simp at hi⟩
 ·obtain⟨b,o,h3,h4⟩:=h2 hx;have ex:∀q,q<xs.length*sz->∃u,w.cell? (ad b (o+q))=ah u:=by
   intro q hq;have gi:0<sz:=by rcases Dq sz with h|h;(subst h;simp at hq);exact h
   have hi:q/sz<xs.length:=by rw[yE gi];exact hq
   have hj:q%sz<xs[q/sz].length:=by rw[hs _ (bC hi)];exact Ds _ gi
   obtain⟨u,hu,_⟩:=h4 (q/sz) xs[q/sz] (q%sz) (xs[q/sz][q%sz]) (by simp[hi]) (by simp[hj]);refine⟨u, ?_⟩
   rw[<-hu];congr 2;have:=J4 q sz;rw[Et]at this;omega
  refine⟨A,cp,(b9 (xs.length*sz)).map (λq=>(w.cell? (ad b (o+q))).getD undef),rfl,by simp, .inr ⟨b,o,h3,λj u hj=> ?_⟩,λi y j x hi hj=> ?_⟩
  ·rw[bK]at hj;by_cases j7:j<xs.length*sz
   ·obtain⟨u',sA⟩:=ex j j7;simp only[j7,vN,jf,sA,yU,jD]at hj;rw[sA,hj]
   ·rw[kY (l:=b9 (xs.length*sz)) (by simpa using j7)]at hj;cases hj
  ·obtain⟨u,hu,hr⟩:=h4 i y j x hi hj;refine⟨u, ?_,hr⟩
   have hil:=(aT.1 hi).1;have j7:=(aT.1 hj).1;rw[hs y (aR hi)]at j7;have jB:i*sz+j<xs.length*sz:=by have:(i+1)*sz<=xs.length*sz:=b8 _ hil;rw[dq]at this;omega
   rw[bK,vN jB,jf];rw[show o+(i*sz+j)=o+i*sz+j by omega,hu];rfl
section
variable {P:c6} {E:fS} {σ:St} {a:Act} {w:bL} {c:e_} {o:fD} {nm:aF} {e:s5}
theorem xU(cg:Ok E σ w c){nm e:aF}{ex:aX}{xs:aQ}(h:σ (c9 nm)= .o (.row e ex xs)){lo hi:aF}{v:bk}(hv:wV (c.P nm) lo hi v):
  ∃te,E.ty e=ah te/\(∀y∈eA xs lo hi,y.map CV.kd=te.ks)/\ov w v (eA xs lo hi) te.ks.length (λi j u x=>if ex=ai then XC E w (c.G nm) (lo+i) j u x else da E w c.K u x):=by obtain⟨⟨ti,h1,h2,h3⟩,h4,_⟩:=cg.obj nm _ h;have:=L4 h4 hv;rw[h2]at this;exact⟨ti,h1,λy hy=>h3 y (CE hy),this⟩
theorem wm(cg:Ok E σ w c){nm e:aF}{ex:aX}{xs:aQ}(h:σ (c9 nm)= .o (.row e ex xs)):wV (c.P nm) 0 xs.length (lT (c.P nm)):=by obtain⟨h1,h2,ti,h3,h4,h5⟩:=lu cg h;rw[<-h1];exact L_ (λhn=>(h5 hn).1) (λhn=>by rw[h1,h2 hn];rfl)
theorem IZ(cg:Ok E σ w c){nm e:aF}{xs:aQ}(h:σ (c9 nm)= .o (.fU e xs)):wV (c.P nm) 0 xs.length (lT (c.P nm)):=by
 obtain⟨h1,h2,ti,h3,h4⟩:=m7 cg h;rw[<-h1];refine L_ (λhn=> ?_) (λhn=>by rw[h1,h2 hn];rfl);obtain⟨j1,j2,_⟩:=cg.obj nm _ h;rw[fc hn]at j1;by_cases hz:0<xs.length
 ·obtain⟨t3,U,L⟩:=j1.Jq hz;rw[j2];exact L.cap
 ·omega
theorem pz(cg:Ok E σ w c){nm e:aF}{xs:aQ}(h:σ (c9 nm)= .o (.fU e xs)){lo hi:aF}{v:bk}(hv:wV (c.P nm) lo hi v):da E w c.K v (.l e (eA xs lo hi)):=by obtain⟨h1,h2,ti,h3,h4⟩:=cg.obj nm _ h;exact Jf h3 h1 h2 h4 hv
theorem Bu(cg:Ok E σ w c){nm e e2 i j:aF}{xs:aQ}{te:TI}(h:σ (c9 nm)= .o (.row e ai xs))(ht:E.ty e=ah te)(hk:te.ks[j]? =ah (.l e2))(hi:i<(c.P nm).n):
  ∃ys y t2,xs[i]? =ah y/\y[j]? =ah (.l e2 ys)/\E.ty e2=ah t2/\plain t2.ks=ai/\(c.G nm i j).sz=t2.ks.length/\(∀y∈ys,y.map CV.kd=t2.ks)/\jj w (c.G nm i j) ys (λ_ _ u x=>Sc u x)/\wV (c.G nm i j) 0 ys.length (lT (c.G nm i j)):=by
 obtain⟨⟨tj,htj,gi,mN⟩,gg,_⟩:=cg.obj nm _ h;obtain rfl:te=tj:=aJ (ht.symm.trans htj);obtain⟨zs,y,hy,hyj,uu,_,tk,G_,sV,Lc,D3,oQ⟩:=uL (c:=c) gg mN hi hk;refine⟨zs,y,tk,hy,hyj,G_,sV,Lc,D3,oQ, ?_⟩
 have:=L_ (p:=c.G nm i j) (λhn=>by obtain⟨_,_,q,_⟩:=oQ.mem hn;exact q) (λhn=>by rw[oQ.n,(oQ.nil hn).1];rfl);rwa[oQ.n]at this
theorem Pv{E:fS}{w:bL}{K:aF->Prop}{v:bk}{e:aF}{xs:aQ}(h:da E w K v (.l e xs)):xs.length<=maxLen:=by
 cases h with
 |nl=>exact bI _
 |l _ _ b o cp ti U ht hc hm=>exact di hc hm
theorem uK{w:bL}{p:Pl}{xs:aQ}{R:aF->aF->bk->CV->Prop}(h:jj w p xs R):xs.length<=maxLen:=by
 cases hn:p.nil with
 |true=>rw[(h.nil hn).1];exact bI _
 |false=>obtain⟨vals,_,h2,h3,_⟩:=h.mem hn;rw[<-h.n];exact di h2 h3
theorem JZ(xs:aQ)(lo hi:aF):(eA xs lo hi).length<=xs.length:=by unfold eA;simp;omega
theorem Ar(cg:Ok E σ w c){x:AV}{v:bk}(hx:eM E w c x v){el:aF}{xs:aQ}{te:TI}(h:(mF E x).val σ=ah (el,xs))(ht:E.ty el=ah te)(hp:plain te.ks=ai):
  ov w v xs te.ks.length (λ_ _ u x=>Sc u x)/\(∀y∈xs,y.map CV.kd=te.ks)/\xs.length<=maxLen:=by
 have ofH:∀{xs:aQ} {v:bk},da E w c.K v (.l el xs)->ov w v xs te.ks.length (λ_ _ u x=>Sc u x)/\(∀y∈xs,y.map CV.kd=te.ks)/\xs.length<=maxLen:=by intro xs v hh;obtain⟨h1,h2⟩:=zR ht hh;exact⟨h1.imp λi y j x u hi hj hr=>pA hr (iv hp (h2 y (aR hi)) hj),h2,Pv hh⟩
 have ofR:∀{nm:aF} {ex:aX} {xs:aQ} {lo hi:aF} {v:bk},σ (c9 nm)= .o (.row el ex xs)->wV (c.P nm) lo hi v->ov w v (eA xs lo hi) te.ks.length (λ_ _ u x=>Sc u x)/\(∀y∈eA xs lo hi,y.map CV.kd=te.ks)/\(eA xs lo hi).length<=maxLen:=by
  intro nm ex xs lo hi v hg hv;obtain⟨t2,q1,q2,q3⟩:=xU cg hg hv;obtain rfl:te=t2:=aJ (ht.symm.trans q1);refine⟨q3.imp λi y j x u hi hj hr=> ?_,q2,di (JZ _ _ _) (uK (cg.obj nm _ hg).at_)⟩
  have hl:=iv hp (q2 y (aR hi)) hj;split at hr
  ·exact uO hr hl
  ·exact pA hr hl
 cases x with
 |sh e' ys=>obtain⟨rfl,rfl⟩:=bW (aJ h);exact ofH hx
 |own n=>
  obtain⟨ob,hg,h⟩:=Rd.bind_some h;have hg:=dA hg;have hx:v=lT (c.P n):=hx;subst hx;cases ob with
  |row e' ex ys=>obtain⟨rfl,rfl⟩:=bW (aJ h);have:=ofR hg (wm cg hg);rwa[qV]at this
  |fU e' ys=>obtain⟨rfl,rfl⟩:=bW (aJ h);have:=ofH (pz cg hg (IZ cg hg));rwa[qV]at this
  |_=>simp at h
 |vw n lo hi=>
  obtain⟨ob,hg,h⟩:=Rd.bind_some h;have hg:=dA hg;cases ob with
  |row e' ex ys=>obtain⟨rfl,rfl⟩:=bW (aJ h);exact ofR hg hx
  |fU e' ys=>obtain⟨rfl,rfl⟩:=bW (aJ h);exact ofH (pz cg hg hx)
  |_=>simp at h
 |inn n i j=>
  obtain⟨ob,hg,h⟩:=Rd.bind_some h;have hg:=dA hg;cases ob with
  |row e' ex ys=>
   cases ex with
   |false=>simp at h
   |true=>
   obtain⟨t1,ht1,h⟩:=Rd.bind_some h;have ht1:=dX ht1;split at h
   ·rename_i e2 Aj;obtain⟨rfl,rfl⟩:=bW (aJ h);obtain⟨⟨me,hx⟩,_⟩:=hx;obtain⟨zs,y,t2,q1,q2,q3,q4,q5,q6,q7,q8⟩:=Bu cg hg ht1 Aj me;obtain rfl:te=t2:=aJ (ht.symm.trans q3);rw[fH q1 q2];have:=L4 q7 q8;rw[qV,q5]at this;subst hx;exact⟨this,q6,uK q7⟩
   ·simp at h
  |_=>simp at h
 |_=>simp[mF]at h
end
end Go.FG

namespace Go.FG
def f_(E:fS)(w:bL)(c:e_)(vals:dv bk)(xs:aA AV):Prop:=
 vals.size=xs.length/\∀(j:aF) (a:AV),xs[j]? =ah a->∃u:bk,vals[j]? =ah u/\eM E w c a u
theorem qn.cells{E:fS}{w:bL}{c:e_}{agg:aX}{xs:aA AV}{v:bk}(h:qn E w c agg xs v):f_ E w c v.cells xs:=by
 unfold qn at h;split at h
 ·rename_i a;rw[EO h.one];refine⟨rfl,λj a' hj=> ?_⟩
  cases j with
  |zero=>simp at hj;subst hj;exact⟨v,rfl,h⟩
  |succ=>simp at hj
 ·obtain⟨vals,rfl,hs,hv⟩:=h;exact⟨hs,hv⟩
 ·exact h.elim
theorem f_.one{E:fS}{w:bL}{c:e_}{xs:aA AV}{vals:dv bk}(h:f_ E w c vals xs):∀u∈vals.toList,u.oneCell'=true:=by
 intro u hu;obtain⟨j,hj⟩:=bY hu;have jB:j<xs.length:=by rw[<-h.1];have:=(aT.1 hj).1;simpa using this
 obtain⟨u',h1,h2⟩:=h.2 j xs[j] (by simp[jB]);rw[cZ,h1]at hj;cases hj;exact h2.one
theorem vA{α:Type}{xs ys:aA α}{j:aF}(h:j+ys.length<=xs.length):(iH xs j ys).length=xs.length:=by unfold iH;simp;omega
theorem pD{α:Type}{xs ys:aA α}{j:aF}(h:j+ys.length<=xs.length)(k:aF):(iH xs j ys)[k]? =if j<=k/\k<j+ys.length then ys[k-j]? else xs[k]? :=by
 unfold iH;by_cases h1:k<j
 ·rw[bH (by omega),cB,dI (by simp;omega),ea,bz h1]
 ·by_cases h2:k<j+ys.length
  ·rw[bz ⟨by omega,h2⟩,cB,db (by simp;omega),dI (by simp;omega)];congr 1;simp;omega
  ·rw[bH (by omega),cB,db (by simp;omega),db (by simp;omega),dR];congr 1;simp;omega
theorem CD{α:Type}{xs ys:aA α}{j:aF}{x:α}(h:x∈iH xs j ys):x∈xs\/x∈ys:=by
 unfold iH at h;simp only[ba]at h;rcases h with (h|h)|h
 ·exact .inl (k_ h)
 ·exact .inr h
 ·exact .inl (kZ h)
theorem f_.put{E:fS}{w:bL}{c:e_}{xs ys:aA AV}{vals vs:dv bk}(h:f_ E w c vals xs)(h':f_ E w c vs ys){j:aF}(hl:j+ys.length<=xs.length):f_ E w c (eh vals j vs.toList) (iH xs j ys):=by
 have hb:j+vs.toList.length<=vals.size:=by rw[h.1,dS,h'.1];exact hl
 refine⟨by rw[fj hb,vA hl];exact h.1,λk a hk=> ?_⟩
 rw[pD hl]at hk;rw[gq hb,dS,h'.1];split at hk
 ·rename_i hc;rw[bz hc,cZ];exact h'.2 _ a hk
 ·rename_i hc;rw[bH hc];exact h.2 k a hk
theorem SJ(off:aF):∀(l:aA bk) (k:aF) (cells:dv bk),off+k+l.length<=cells.size->
  ((l.zipIdx k).foldl (λr p=>r.setIfInBounds (off+p.2) p.1) cells).size=cells.size/\
  ∀q:aF,((l.zipIdx k).foldl (λr p=>r.setIfInBounds (off+p.2) p.1) cells)[q]? =if off+k<=q/\q<off+k+l.length then l[q-(off+k)]? else cells[q]? :=by
 intro l;induction l with
 |nil=>intro k cells _;refine⟨rfl,λq=> ?_⟩;rw[bH (by simp)];rfl
 |cons v rest ih=>
  intro k cells hl;simp only[dc]at hl;obtain⟨h1,h2⟩:=ih (k+1) (cells.setIfInBounds (off+k) v) (by simp;omega);simp only[List.zipIdx_cons,DD];refine⟨by rw[h1];simp,λq=> ?_⟩
  rw[h2 q];by_cases hq:q=off+k
  ·subst hq;rw[bH (by omega),bz ⟨by omega,by simp⟩,ot,bz rfl,bz (by omega)];simp
  ·by_cases hr:off+(k+1)<=q/\q<off+(k+1)+rest.length
   ·rw[bz hr,bz ⟨by omega,by simp;omega⟩];rw[show q-(off+k)=(q-(off+(k+1)))+1 by omega,dP]
   ·rw[bH hr,bH (by simp;omega),ot,bH (λh=>hq h.symm)]
theorem EX{off:aF}{vs cells:dv bk}(h:off+vs.size<=cells.size):(vs.zipIdx.foldl (λr (p:bk×aF)=>r.setIfInBounds (off+p.2) p.1) cells)=eh cells off vs.toList:=by
 rw[<-Array.foldl_toList,Array.toList_zipIdx];obtain⟨h1,h2⟩:=SJ off vs.toList 0 cells (by simpa using h);have hb:off+vs.toList.length<=cells.size:=by simpa using h
 apply Array.ext_getElem?;intro q;rw[h2 q,gq hb];simp
theorem Ql{E:fS}{w:bL}{c:e_}{k:Ck}(h:(match k with| .o=>ak|_=>ai)=ai):eM E w c (Dl k) (iN k):=by cases k<;>first|rfl|exact⟨rfl,bI _⟩|simp at h
theorem CG(k:Ck):bS (Dl k)=[]:=by cases k<;>rfl
theorem J3{E:fS}{w:bL}{c:e_}{ks:aA Ck}(h:Lu ks=ai):f_ E w c (ks.map iN).toArray (ks.map Dl):=by
 refine⟨by simp,λj a hj=> ?_⟩
 rw[bK]at hj;cases hk:ks[j]? with
 |none=>rw[hk]at hj;cases hj
 |some k=>rw[hk]at hj;cases hj;exact⟨iN k,by simp[hk],Ql (bu.1 h k (aR hk))⟩
section
variable {P:c6} {E:fS} {σ:St} {a:Act} {w:bL} {c:e_} {o:fD} {nm:aF} {e:s5}
theorem PY(hE:eH P E)(dL:fF E σ a w c){t:aF}{pl:aA (aF×aF)}{size:aF}(sV:∀f o n,E.fo t f=ah (o,n)->pl[f]? =ah (o,n)/\o+n<=size):∀(ps:aA (aF×dz)) (l:aA (aF×aA AV)),(Hq E t ps).val σ=ah l->
  ∀(vals:dv bk) (xs:aA AV),f_ E w c vals xs->xs.length=size->(∀a∈xs,jh σ a)->
  ∃jc,pH (λi=>pl[i]?) vals (ps.map λ(i,x)=>(i,a.eval x))=ah jc/\f_ E w c jc (Nk xs l)/\(∀a∈Nk xs l,jh σ a):=by
 intro ps;induction ps with
 |nil=>intro l h vals xs hv _ hk;obtain rfl:=aJ h;exact⟨vals,rfl,hv,hk⟩
 |cons p r ih=>
  obtain⟨f,x⟩:=p;intro l h vals xs hv gi hk;obtain⟨v,h1,h⟩:=Rd.bind_some h;obtain⟨Py,hkv⟩:=mw dL h1;cases v with
  |v g ys=>
   replace h:(match E.fo t f with|some (o,n)=>bif bD ys.length n then(Hq E t r).bind λl=> .ret ((o,ys)::l)else .fail|none=> .fail:Rd (aA (aF×aA AV))).val σ=ah l:=h;cases hf:E.fo t f with
   |none=>rw[hf]at h;simp at h
   |some q=>
    obtain⟨off,n⟩:=q;rw[hf]at h;obtain⟨hn,h⟩:=cS h;have hn:=aU hn;obtain⟨l',hl',h⟩:=Rd.bind_some h;obtain rfl:=aJ h;obtain⟨Pz,hp2⟩:=sV f off n hf;have hc:=qn.cells Py;have mI:off+ys.length<=xs.length:=by omega
    obtain⟨jc,q1,q2,q3⟩:=ih l' hl' (eh vals off (a.eval x).cells.toList) (iH xs off ys) (hv.put hc mI) (by rw[vA mI];exact gi)
     (λb hb=>by
      rcases CD hb with hb|hb
      ·exact hk b hb
      ·exact λn hn=>hkv n (bQ.2 ⟨b,hb,hn⟩))
    refine⟨jc, ?_,q2,q3⟩
    simp only[fE,pH,Pz];have c1:(a.eval x).cells.size=n:=by rw[hc.1,hn]
    have c2:¬(off+(a.eval x).cells.size>vals.size):=by rw[hc.1,hv.1];omega
    rw[bH (by simp[c1];rw[c1]at c2;omega)];have:=EX (off:=off) (vs:=(a.eval x).cells) (cells:=vals) (by omega);rw[<-q1];exact lN (λz=>pH (λi=>pl[i]?) z _) this
  |kj=>simp at h
  |un=>simp at h
theorem Uu(hE:eH P E)(cg:Ok E σ w c)(dL:fF E σ a w c)(hd:∀d,o.dst=ah d->d<a.tmps.size){t:aF}{ps:dv (aF×dz)}(ho:o.op= .build t ps)(h:(mg E nm o).val σ=ah e):gY P E σ a w c o e.ws:=by simp only[mg,ho]at h;obtain⟨ti,h1,h⟩:=Rd.bind_some h;obtain⟨hb,h⟩:=cS h;obtain⟨l,h2,h⟩:=Rd.bind_some h;have ht:=dX h1;simp only[aL]at hb;obtain⟨zA,uC⟩:=hb;obtain⟨inf,hi,gi,_,_,hz⟩:=hE.info t ti ht;obtain⟨z,J8,D6,_⟩:=hz zA;obtain⟨d,hd',ha,_⟩:=hE.desc t ti ht;obtain⟨fs,rfl,K7⟩:=ha uC;obtain⟨pl,Pz,hp2⟩:=hE.pl t ti ht uC fs hd';obtain⟨vals,q1,q2,q3⟩:=PY (size:=ti.ks.length) hE dL (λf o n hf=>⟨hp2 f o n hf,(K7 f o n hf).choose_spec.2.2.2.2⟩) ps.toList l h2 _ _ (J3 (w:=w) (c:=c) (E:=E) zA) (by simp) (λb hb=>by obtain⟨k,_,rfl⟩:=cX.1 hb;exact uE (CG k));refine fY cg dL hd h (v:= .agg vals) ⟨vals,rfl,q2.1,q2.2⟩ (λn hn=>by obtain⟨x,hx,hn⟩:=bQ.1 hn;exact q3 x hx n hn) ?_;unfold execOp;rw[ho];refine i9 (run_build w t _ vals ?_);simp only[Program.built,hi,hd',J8,Pz,D6,ij,Aw];exact q1
theorem Uw(hE:eH P E)(cg:Ok E σ w c)(dL:fF E σ a w c)(hd:∀d,o.dst=ah d->d<a.tmps.size){t f:aF}{x:dz}(ho:o.op= .field t x f)(h:(mg E nm o).val σ=ah e):gY P E σ a w c o e.ws:=by
 simp only[mg,ho]at h;obtain⟨v,h1,h⟩:=Rd.bind_some h;obtain⟨hv,hk⟩:=mw dL h1;cases v with
 |v g xs=>
  cases g with
  |true=>
   cases hf:E.fo t f with
   |none=>rw[hf]at h;simp at h
   |some r=>
    obtain⟨j,n⟩:=r;rw[hf]at h;obtain⟨hb,h⟩:=cS h;rw[aL]at hb;cases hx:xs.drop j with
    |nil=>rw[hx]at h;simp at h
    |cons y ys=>
     rw[hx]at h;have hj:xs[j]? =ah y:=by have:=dR (xs:=xs) (i:=j) (j:=0);rw[hx]at this;simpa using this.symm
     obtain⟨vals,q1,q2,q3⟩:∃vals:dv bk,a.eval x= .agg vals/\vals.size=xs.length/\∀(j:aF) (b:AV),xs[j]? =ah b->∃u:bk,vals[j]? =ah u/\eM E w c b u:=hv;obtain⟨u,hu,Wr⟩:=q3 j y hj;obtain⟨ti,ht,uC⟩:=hE.fo t f j n hf;obtain⟨d,hd',ha,_⟩:=hE.desc t ti ht;obtain⟨fs,rfl,K7⟩:=ha uC;obtain⟨fd,g1,g2,_⟩:=K7 f j n hf;have hAg:=hE.fl t f hb.1 fs fd hd' g1 w;refine fY cg dL hd h (s:= .v ak [y]) (v:=u) Wr (λm hm=>hk m (bQ.2 ⟨y,aR hj,by simpa [cQ]using hm⟩)) ?_;unfold execOp;rw[ho];refine i9 ?_;simp only[Instr.field,cm,run_underlying hd',bG,g1,q1,asAgg,cU,part,hAg,dy,if_false,g2,hu]
  |false=>simp at h
 |kj=>simp at h
 |un=>simp at h
theorem Us(hE:eH P E)(cg:Ok E σ w c)(dL:fF E σ a w c)(hd:∀d,o.dst=ah d->d<a.tmps.size){t:aF}(ho:o.op= .alloc t)(h:(mg E nm o).val σ=ah e):gY P E σ a w c o e.ws:=by
 simp only[mg,ho]at h;obtain⟨ti,h1,h⟩:=Rd.bind_some h;obtain⟨hb,h⟩:=cS h;obtain⟨u,h2,h⟩:=Rd.bind_some h;obtain⟨hf,jB⟩:=kJ h2;obtain rfl:=aJ h;have hr:=P8 (P:=P) w hE (dX h1) hb;refine Cs cg dL hd (p:=⟨ak,w.heap.size,0,0,0,0⟩) (g:=λ_ _=>⟨ak,0,0,0,0,0⟩) hf jB (λc' hP _ _ _=> ?_) (λc' hP _ b hb=> ?_) (λxs hx b hb=> ?_) (λc' hP _=> ?_) (λn hn=> .inl (by simpa [cQ,bS]using hn)) (λb hb=>heap_alloc_old w _ b hb) (by simp) rfl rfl rfl (v:= .pointer (ah (ad w.heap.size 0))) (w':=w.alloc (.cells (ti.ks.map iN).toArray t)) ?_
 ·obtain⟨z1,z2⟩:=J3 (E:=E) (w:=w.alloc (.cells (ti.ks.map iN).toArray t)) (c:=c') hb;exact⟨_,by rw[hP];exact nZ.alloc w _ t,z1,z2⟩
 ·have:b=(c'.P nm).blk:=hb;rw[this,hP];exact cG _
 ·cases hx;obtain⟨k,_,rfl⟩:=cX.1 hb;exact uE (CG k)
 ·show _=_;rw[hP]
 ·unfold execOp;rw[ho];exact i9 hr
theorem agm(cg:Ok E σ w c)(dL:fF E σ a w c)(hd:∀d,o.dst=ah d->d<a.tmps.size){t:aF}{x:dz}(ho:o.op= .box t x)(h:(mg E nm o).val σ=ah e):gY P E σ a w c o e.ws:=by
 simp only[mg,ho]at h;obtain⟨v,h1,h⟩:=Rd.bind_some h;obtain⟨hv,hk⟩:=mw dL h1;cases v with
 |v g xs=>
  obtain⟨u,h2,h⟩:=Rd.bind_some h;obtain⟨hf,jB⟩:=kJ h2;obtain rfl:=aJ h;have hr:=U2 (P:=P) w t (a.eval x);have kx:∀b∈xs,jh σ b:=λb hb n hn=>hk n (bQ.2 ⟨b,hb,hn⟩);have oc:=qn.cells hv;refine Cs cg dL hd (p:=⟨ak,w.heap.size,0,0,0,0⟩) (g:=λ_ _=>⟨ak,0,0,0,0,0⟩) hf jB (λc' hP _ hK hA=> ?_) (λc' hP _ b hb=> ?_) (λys hx b hb=> ?_) (λc' hP _=> ?_) (λn hn=> .inl (by simpa [cQ,bS]using hn)) (λb hb=>heap_alloc_old w _ b hb) (by simp) rfl rfl rfl (v:= .pointer (ah (ad w.heap.size 0))) (w':=w.alloc (.cells (a.eval x).cells t)) ?_
  ·refine⟨_,by rw[hP];exact nZ.alloc w _ t,oc.1,λj y hj=> ?_⟩
   obtain⟨u,hu,hy⟩:=oc.2 j y hj;exact⟨u,hu,hy.frame (λb hb=>heap_alloc_old w _ b (cg.lt b hb)) hK (λn hn=>hA n (.inl (kx y (aR hj) n hn)))⟩
  ·have:b=(c'.P nm).blk:=hb;rw[this,hP];exact cG _
  ·cases hx;exact kx b hb
  ·show _=_;rw[hP]
  ·unfold execOp;rw[ho];exact i9 hr
 |kj=>simp at h
 |un=>simp at h
end
end Go.FG

namespace Go.FG
def Ls(E:fS)(ks:aA Ck)(_i j:aF):Pl:=
 ⟨ai,0,0,0,0,match ks[j]? with|some (.l e)=>(match E.ty e with|some t=>t.ks.length|none=>0)|_=>0⟩
theorem we{p:Pl}{G:aF->aF->Pl}{xs:aQ}(h:∀i j,(G i j).nil=ai):FQ p G xs:=
 ⟨λi j _ hn=>(by rw[h]at hn;cases hn),λi j i' j' _ _ hn=>(by rw[h]at hn;cases hn)⟩
theorem OD{E:fS}{w:bL}{ks:aA Ck}(hf:flat E ks=ai)(hn:Lu ks=ai){i j:aF}{k:Ck}(hk:ks[j]? =ah k):XC E w (Ls E ks) i j (iN k) (zX k):=by
 have h1:=bu.1 hf k (aR hk);have h2:=bu.1 hn k (aR hk);cases k with
 |l e=>
  replace h1:(match E.ty e with|some ti=>plain ti.ks|none=>ak)=true:=h1;cases ht:E.ty e with
  |none=>rw[ht]at h1;cases h1
  |some t=>
   rw[ht]at h1;refine⟨rfl,t,ht,h1, ?_,λy hy=>(by cases hy),⟨rfl,λ_=>⟨rfl,rfl⟩,λh=>by cases h⟩⟩
   show(match ks[j]? with|some (.l e)=>(match E.ty e with|some t=>t.ks.length|none=>0)|_=>0)=_;rw[hk];simp only[ht]
 |o=>cases h2
 |s=>exact⟨rfl,bI _⟩
 |_=>exact⟨rfl,trivial⟩
theorem Me{E:fS}{w:bL}{K:aF->Prop}{k:Ck}(h2:(match k with| .o=>ak|_=>ai)=ai):da E w K (iN k) (zX k):=by
 cases k with
 |o=>cases h2
 |i k=>exact .i _ _
 |b=>exact .b _
 |s=>exact .s _ (bI _)
 |l e=>exact .nl _ _ _
theorem aad{k:Ck}(h2:(match k with| .o=>ak|_=>ai)=ai):(zX k).kd=k:=by cases k<;>first|rfl|cases h2
theorem yC{ks:aA Ck}(hn:Lu ks=ai)(n:aF):∀y∈aP ks n,y.map CV.kd=ks:=by
 intro y hy;rw[(List.mem_replicate.1 hy).2,mn];have:∀k∈ks,(CV.kd∘zX) k=k:=λk hk=>aad (bu.1 hn k hk);conv=>rhs;rw[<-List.map_id ks]
 exact Qp this
theorem uP{ks:aA Ck}{n i j:aF}{y:aA CV}{x:CV}(hi:(aP ks n)[i]? =ah y)(hj:y[j]? =ah x):i<n/\∃k,ks[j]? =ah k/\x=zX k:=by
 unfold aP at hi;have jB:=(aT.1 hi).1;rw[List.length_replicate]at jB;rw[List.getElem?_replicate,bz jB]at hi;cases hi;rw[bK]at hj;cases hk:ks[j]? with
 |none=>rw[hk]at hj;cases hj
 |some k=>rw[hk]at hj;cases hj;exact⟨jB,k,rfl,rfl⟩
theorem lU{ks:aA Ck}{n i j:aF}{k:Ck}(hi:i<n)(hk:ks[j]? =ah k):(madeCells (ks.map iN).toArray (n*ks.length))[i*ks.length+j]? =ah (iN k):=by
 have hj:=(aT.1 hk).1;have jB:i*ks.length+j<n*ks.length:=by have:(i+1)*ks.length<=n*ks.length:=b8 _ hi;rw[dq]at this;omega
 have hm:(i*ks.length+j)%ks.length=j:=by rw[Et,Nat.mul_add_mod];exact Nat.mod_eq_of_lt hj
 unfold madeCells;rw[OG,Array.getElem?_range,bz jB,jf];congr 1;simp only[Wi,bU,hm];rw[getElem!_def,ij,bK,hk];rfl
theorem zE{P:c6}{E:fS}{σ:St}(hE:eH P E){t:aF}{k:nu}(h:(pY E t).val σ=ah (.i k)):P.underlying t=ah (.int k):=by obtain⟨ti,h1,h2,h3⟩:=rQ h;obtain⟨d,hd,_,hn⟩:=hE.desc t ti h1;rcases hn h2 with ⟨k,h,rfl⟩|⟨h,_⟩|⟨h,_⟩|⟨e',h,_⟩|⟨h,_⟩<;>rw[h3]at h<;>simp_all
theorem M9{P:c6}{E:fS}(hE:eH P E){e:aF}{te:TI}(ht:E.ty e=ah te)(h:(u8s te.ks&& !te.agg)=ai):te.ks=[.i .u8]/\P.underlying e=ah (.int .u8):=by
 simp only[aL,dt]at h;have hk:te.ks=[.i .u8]:=by
  have:=h.1;unfold u8s at this;split at this
  ·assumption
  ·cases this
 obtain⟨d,hd,_,hn⟩:=hE.desc e te ht;refine⟨hk, ?_⟩
 rcases hn h.2 with ⟨k,h,rfl⟩|⟨h,_⟩|⟨h,_⟩|⟨e',h,_⟩|⟨h,_⟩<;>rw[hk]at h<;>simp_all
section
variable {P:c6} {E:fS} {σ:St} {a:Act} {w:bL} {c:e_} {o:fD} {nm:aF} {e:s5}
theorem P9(hE:eH P E){src dst el:aF}{te:TI}(hs:P.underlying src=ah (.slice el))(hd:P.underlying dst=ah .string)(he:P.underlying el=ah (.int .u8))(hk:te.ks=[.i .u8]){v:bk}{xs:aQ}
  (h:ov w v xs te.ks.length (λ_ _ u x=>Sc u x)) (mN:∀y∈xs,y.map CV.kd=te.ks):(convert src dst v).run P w= .ok (.string (bytesOf xs)) w:=by
 obtain⟨A,cp,rfl,h2⟩:=h;by_cases hx:xs=[]
 ·subst hx;rw[jS];have e0:bytesOf []=HM:=rfl;rw[e0];cases A with
  |none=>exact run_convert_bytes_nil w src el hs he 0 cp dst hd
  |some ad'=>rw[run_convert_bytes_string w src dst el _ 0 cp hs he hd];exact run_bytesToString w ad' 0 cp [] rfl
 ·obtain⟨b,oo,rfl,h3⟩:=h2 hx;have:=run_convert_bytes_arg w src el hs he b oo xs.length cp (xs.map λy=>bF (y.getD 0 (.b ak))) (by simp) (λi hi=>by
   have hy:=mN xs[i] (bC hi);rw[hk]at hy;cases hq:xs[i]with
   |nil=>rw[hq]at hy;cases hy
   |cons x r=>
    rw[hq]at hy;simp only[fE,List.cons.injEq,List.map_eq_nil_iff]at hy;obtain⟨hx1,rfl⟩:=hy;obtain⟨u,hu,hr⟩:=h3 i xs[i] 0 x (by simp[hi]) (by rw[hq];rfl);rw[hk]at hu;simp only[dc,jS,bV,Nat.mul_one,yT]at hu;rw[hu,hr.1];cases x with
    |i k n=>cases hx1;simp[Qc,jR,hi,hq,bF]
    |_=>cases hx1) dst hd
  rw[this];unfold strOfNums bytesOf;rw[mn];rfl
theorem iU(xs:aQ):(bytesOf xs).size=xs.length:=by unfold bytesOf;simp[cq]
theorem mf(s:aq):(qR s).length=s.size:=by unfold qR;simp
theorem Hv{s:aq}{i j:aF}{y:aA CV}{x:CV}(hi:(qR s)[i]? =ah y)(hj:y[j]? =ah x):j=0/\∃b,s.data[i]? =ah b/\x= .i .u8 (b.toNat:aw):=by
 unfold qR at hi;rw[bK,cZ]at hi;cases hb:s.data[i]? with
 |none=>rw[hb]at hi;cases hi
 |some b=>
  rw[hb]at hi;cases hi;cases j with
  |zero=>cases hj;exact⟨rfl,b,rfl,rfl⟩
  |succ j=>simp at hj
theorem JK(s:aq):∀y∈qR s,y.map CV.kd=[.i .u8]:=by intro y hy;obtain⟨b,_,rfl⟩:=cX.1 hy;rfl
theorem Lx(hE:eH P E)(cg:Ok E σ w c)(dL:fF E σ a w c)(hd:∀d,o.dst=ah d->d<a.tmps.size){src dst:aF}{x:dz}(ho:o.op= .convert src dst x)(h:(mg E nm o).val σ=ah e)(hc:e.cond=ai):gY P E σ a w c o e.ws:=by
 simp only[mg,ho]at h;obtain⟨ks,h1,h⟩:=Rd.bind_some h;obtain⟨kd,h2,h⟩:=Rd.bind_some h;obtain⟨v,h3,h⟩:=Rd.bind_some h;obtain⟨ev,kv⟩:=i_ dL h3;have exec:∀{u r:bk} {w':bL},a.eval x=u->(convert src dst u).run P w= .ok r w'->(execOp a.eval o).run P w= .ok (.value r) w':=by intro u r w' hu hr;unfold execOp;rw[ho];exact i9 (by rw[hu];exact hr)
 cases kd with
 |i k=>
  cases ks with
  |i k0=>
   cases v with
   |i k1 n=>refine fY cg dL hd h (v:= .int k (k.wrap n)) rfl (λn hn=>by simp[cQ,bS]at hn) (exec ev ?_);simp[convert,run_underlying (zE hE h1),run_underlying (zE hE h2),Conv.intToInt]
   |_=>simp at h
  |_=>simp at h
 |s=>
  have Cu:=ll hE h2;cases ks with
  |s=>
   cases v with
   |s s=>refine fY cg dL hd h (v:= .string s) ⟨rfl,ev.2⟩ (λn hn=>by simp[cQ,bS]at hn) (exec ev.1 ?_);simp[convert,run_underlying (ll hE h1),run_underlying Cu]
   |_=>simp at h
  |l el=>
   have D4:=kM hE h1;have gen:(∀e,v=e->((mF E e).bind λ(e,xs)=>(sS E e).bind λte=>bif bD e el&&u8s te.ks&& !te.agg then L7 o (decide (xs.length<=4611686018427387904)) (.s (bytesOf xs))else .fail).val σ=ah ‹s5›)->gY P E σ a w c o (‹s5›).ws:=by
    intro h;obtain⟨⟨e1,xs⟩,q1,h⟩:=Rd.bind_some (h v rfl);obtain⟨te,q2,h⟩:=Rd.bind_some h;have q2:=dX q2;obtain⟨q3,h9⟩:=cS h;rw[nO,aL]at q3;have:=aU q3.1;subst this;obtain⟨q4,q5⟩:=M9 hE q2 q3.2;have hp:plain te.ks=true:=by rw[q4];rfl
    obtain⟨r1,r2,r3⟩:=Ar cg ev q1 q2 hp;exact Fw cg dL hd h9 hc (v:= .string (bytesOf xs)) (λhb=>⟨rfl,by unfold D8;rw[iU];exact cu hb⟩) (uE rfl) (λ_=>exec rfl (P9 hE D4 Cu q5 q4 r1 r2))
   cases v with
   |nl=>obtain⟨te,q1,h⟩:=Rd.bind_some h;obtain⟨q3,h⟩:=cS h;obtain⟨q4,q5⟩:=M9 hE (dX q1) q3;exact fY cg dL hd h (v:= .string HM) ⟨rfl,bI _⟩ (λn hn=>by simp[cQ,bS]at hn) (exec ev (run_convert_bytes_nil w src el D4 q5 0 0 dst Cu))
   |_=>exact gen (λ_ hv=>by cases hv;exact h)
  |_=>simp at h
 |_=>simp at h
theorem Hn(hE:eH P E)(cg:Ok E σ w c)(dL:fF E σ a w c)(hd:∀d,o.dst=ah d->d<a.tmps.size){t:aF}{x y:dz}(ho:o.op= .makeSlice t x y)(h:(mg E nm o).val σ=ah e)(hc:e.cond=ai):gY P E σ a w c o e.ws:=by
 simp only[mg,ho]at h;obtain⟨⟨k1,n⟩,h1,h⟩:=Rd.bind_some h;obtain⟨⟨k2,m⟩,h2,h⟩:=Rd.bind_some h;obtain⟨ti,h3,h⟩:=Rd.bind_some h;have ex:=pZ dL h1;have ey:=pZ dL h2;have h3:=dX h3;split at h
 ·rename_i el uC A1;obtain⟨te,h4,h⟩:=Rd.bind_some h;have h4:=dX h4;obtain⟨h5,h⟩:=cS h;obtain⟨u,h6,h⟩:=Rd.bind_some h;obtain⟨hf,jB⟩:=kJ h6;obtain rfl:=aJ h;generalize (bif plain te.ks then nm else nm+999)=nm at hf jB hc⊢;simp only[aL,bf,cy]at hc h5;obtain⟨⟨c0,rfl⟩,c1,c2⟩:=hc;obtain⟨zA,Po⟩:=h5;have hu:=pk hE h3 uC A1;obtain⟨inf,hi,gi,hby,lj,hz⟩:=hE.info el te h4;obtain⟨z,J8,D6,_⟩:=hz zA;have hr:=run_make (P:=P) w t el inf z hu hi J8 k1 k2 n n c0 (Int.le_refl _) (by
   have e1:((n.toNat*te.bytes:aF):aw)<=140737488355328:=(by generalize n.toNat*te.bytes=q at c1⊢;omega)
   rw[hby,Int.mul_comm];rw[W2,Int.toNat_of_nonneg c0]at e1;omega) (by omega)
  rw[D6,gi]at hr;refine Cs cg dL hd (p:=⟨ak,w.heap.size,0,n.toNat,n.toNat,te.ks.length⟩) (g:=Ls E te.ks) hf jB (λc' hP hG _ _=> ?_) (λc' hP hG b hb=> ?_) (λxs hx b hb=>by cases hx) (λc' hP _=> ?_) (λn hn=> .inl (by simpa [cQ,bS]using hn)) (λb hb=>heap_alloc_old w _ b hb) (by simp) rfl rfl rfl (v:= .slice (ah ⟨w.heap.size,0,aj⟩) n.toNat n.toNat) (w':=w.alloc (.cells (madeCells (te.ks.map iN).toArray (n.toNat*te.ks.length)) el)) ?_
  ·refine⟨⟨te,h4,by rw[hP],yC zA _⟩, ?_,λ_=>we (λi j=>(by rw[hG];try rfl))⟩
   rw[hP,hG];refine⟨by simp[aP],λhn=>(by cases hn),λ_=>⟨_,nZ.alloc w _ el,cG _,(by show n.toNat<=2^63-1;omega),by rw[size_madeCells];simp,λi y j x hi hj=> ?_⟩⟩
   obtain⟨gh,k,hk,rfl⟩:=uP hi hj;refine⟨iN k, ?_,by rw[bz rfl];exact OD Po zA hk⟩
   rw[bV];exact lU gh hk
  ·rcases hb with ⟨_,rfl⟩|⟨_,i,j,_,hn,_⟩
   ·rw[hP];exact cG _
   ·rw[hG]at hn;cases hn
  ·show _=lT _;rw[hP];rfl
  ·unfold execOp;rw[ho];exact i9 (by rw[ex,ey];exact hr)
 ·simp at h
end
end Go.FG

namespace Go.FG
theorem jW{xs:aQ}{i j:aF}{cs:aA CV}:(eJ xs i j cs).length=xs.length:=by unfold eJ;simp
theorem yo{xs:aQ}{i j:aF}{cs y:aA CV}(hy:xs[i]? =ah y)(i':aF):(eJ xs i j cs)[i']? =if i'=i then ah (iH y j cs)else xs[i']? :=by
 have jB:=(aT.1 hy).1;have hd:xs.getD i []=y:=by rw[cT,hy];rfl
 unfold eJ;rw[Qo,hd];by_cases h:i'=i
 ·subst h;simp[jB]
 ·rw[bH h,bH (λe=>h e.symm)]
theorem nZ.uniq{w:bL}{b:aF}{v1 v2:dv bk}(h1:nZ w b v1)(h2:nZ w b v2):v1=v2:=by obtain⟨t,fr,h1,_⟩:=h1;obtain⟨t',fr',h2,_⟩:=h2;rw[h1]at h2;cases h2;rfl
theorem jj.pos{w:bL}{p:Pl}{xs:aQ}{R:aF->aF->bk->CV->Prop}(h:jj w p xs R){i:aF}(hi:i<p.n):p.nil=ak/\∃vals,nZ w p.blk vals:=by
 have jC:p.nil=false:=by
  cases hn:p.nil with
  |false=>rfl
  |true=>have:=(h.nil hn).1;subst this;have:=h.n;simp at this;omega
 obtain⟨vals,hb,_⟩:=h.mem jC;exact⟨jC,vals,hb⟩
theorem jj.alG{w:bL}{p:Pl}{xs:aQ}{R R':aF->aF->bk->CV->Prop}(h:jj w p xs R){vals:dv bk}(hbv:nZ w p.blk vals)(hs:∀y∈xs,y.length=p.sz){i j:aF}{cs:aA CV}{vs:aA bk}(hi:i<p.n)(hj:j+cs.length<=p.sz)(hl:vs.length=cs.length)
  (zy:∀(q:aF) (x:CV),cs[q]? =ah x->∃u:bk,vs[q]? =ah u/\R' i (j+q) u x)
  (hold:∀(i1:aF) (y:aA CV) (j1:aF) (x:CV) (u:bk),xs[i1]? =ah y->y[j1]? =ah x->(i1≠i\/¬(j<=j1/\j1<j+cs.length))->R i1 j1 u x->R' i1 j1 u x):
  p.off+i*p.sz+j+vs.length<=vals.size/\jj (w.setRow p.blk (eh vals (p.off+i*p.sz+j) vs)) p (eJ xs i j cs) R':=by
 have jC:p.nil=false:=by
  cases hn:p.nil with
  |false=>rfl
  |true=>have:=(h.nil hn).1;subst this;have:=h.n;simp at this;omega
 obtain⟨jc,hb,SX,XK,mI,hc⟩:=h.mem jC;obtain rfl:=hbv.uniq hb;have mc:i<xs.length:=by rw[<-h.n];exact hi
 have hy:xs[i]? =ah xs[i]:=by simp[mc]
 have Jj:=hs xs[i] (bC mc);have h1:(i+1)*p.sz<=p.cap*p.sz:=b8 _ (by omega);rw[dq]at h1;have vq:p.off+i*p.sz+j+vs.length<=vals.size:=by omega
 refine⟨vq,⟨by rw[jW];exact h.n,λhn=>(by rw[jC]at hn;cases hn),λ_=> ?_⟩⟩
 refine⟨_,hb.setRow (fj vq),SX,XK,by rw[fj vq];exact mI,λi' y j' x me Pq=> ?_⟩
 rw[yo hy]at me;rw[gq vq];by_cases Ja:i'=i
 ·subst Ja;rw[bz rfl]at me;cases me;rw[pD (by omega)]at Pq;by_cases hq:j<=j'/\j'<j+cs.length
  ·rw[bz hq]at Pq;rw[bz (by omega)];obtain⟨u,hu,hr⟩:=zy (j'-j) x Pq;refine⟨u, ?_, ?_⟩
   ·rw[<-hu];congr 1;omega
   ·rwa[show j+(j'-j)=j' by omega]at hr
  ·rw[bH hq]at Pq;obtain⟨u,hu,hr⟩:=hc _ _ _ _ hy Pq;exact⟨u,by rw[bH (by omega)];exact hu,hold _ _ _ _ _ hy Pq (.inr hq) hr⟩
 ·rw[bH Ja]at me;obtain⟨u,hu,hr⟩:=hc _ _ _ _ me Pq;refine⟨u, ?_,hold _ _ _ _ _ me Pq (.inl Ja) hr⟩
  have Cw:j'<p.sz:=by rw[<-hs y (aR me)];exact(aT.1 Pq).1
  rw[bH ?_];exact hu;rcases Qr Ja with jB|hgt
  ·have:(i'+1)*p.sz<=i*p.sz:=b8 _ jB;rw[dq]at this;omega
  ·have:(i+1)*p.sz<=i'*p.sz:=b8 _ hgt;rw[dq]at this;omega
theorem jj.put{w:bL}{p:Pl}{xs:aQ}{R R':aF->aF->bk->CV->Prop}(h:jj w p xs R){vals:dv bk}(hbv:nZ w p.blk vals)(hs:∀y∈xs,y.length=p.sz){i j:aF}{cs:aA CV}{vs:aA bk}(hi:i<p.n)(hj:j+cs.length<=p.sz)(hl:vs.length=cs.length)
  (zy:∀(q:aF) (x:CV),cs[q]? =ah x->∃u:bk,vs[q]? =ah u/\R' i (j+q) u x)
  (hold:∀(i:aF) (y:aA CV) (j:aF) (x:CV) (u:bk),xs[i]? =ah y->y[j]? =ah x->R i j u x->R' i j u x):
  p.off+i*p.sz+j+vs.length<=vals.size/\jj (w.setRow p.blk (eh vals (p.off+i*p.sz+j) vs)) p (eJ xs i j cs) R':=
 h.alG hbv hs hi hj hl zy (λi1 y j1 x u h1 h2 _ hr=>hold i1 y j1 x u h1 h2 hr)
theorem lk{xs:aQ}{ks:aA Ck}(h:∀y∈xs,y.map CV.kd=ks)(i j:aF):gk xs i j↔i<xs.length/\∃e,ks[j]? =ah (.l e):=by
 constructor
 ·rintro ⟨y,x,hy,hx,hl⟩;refine⟨(aT.1 hy).1, ?_⟩
  cases x with
  |l e ys=>exact⟨e,by rw[<-h y (aR hy),bK,hx];rfl⟩
  |i=>simp[uD]at hl
  |b=>simp[uD]at hl
  |s=>simp[uD]at hl
 ·rintro ⟨hi,e,hk⟩;have hy:xs[i]? =ah xs[i]:=by simp[hi]
  have h1:=h xs[i] (bC hi);rw[<-h1,bK]at hk;cases hx:xs[i][j]? with
  |none=>rw[hx]at hk;cases hk
  |some x=>
   rw[hx]at hk;cases x with
   |l e2 ys=>exact⟨_,_,hy,hx,rfl⟩
   |i=>cases hk
   |b=>cases hk
   |s=>cases hk
theorem PC{y cs:aA CV}{ks:aA Ck}{j:aF}(hy:y.map CV.kd=ks)(hc:cs.map CV.kd=(ks.drop j).take cs.length)(hj:j+cs.length<=ks.length):(iH y j cs).map CV.kd=ks:=by
 have hl:y.length=ks.length:=by rw[<-hy];simp
 apply Wg;intro q;rw[bK,pD (by omega)];split
 ·rename_i h;have:(cs.map CV.kd)[q-j]? =((ks.drop j).take cs.length)[q-j]? :=by rw[hc]
  rw[bK]at this;rw[this,ea,bz (by omega),dR];congr 1;omega
 ·rw[<-hy,bK]
theorem yq{xs:aQ}{ks:aA Ck}{i j:aF}{cs:aA CV}(h:∀y∈xs,y.map CV.kd=ks)(hc:cs.map CV.kd=(ks.drop j).take cs.length)(hj:j+cs.length<=ks.length)(hi:i<xs.length):∀y∈eJ xs i j cs,y.map CV.kd=ks:=by
 intro y hy;obtain⟨q,hq⟩:=bY hy;rw[yo (y:=xs[i]) (by simp[hi])]at hq;split at hq
 ·cases hq;exact PC (h _ (bC hi)) hc hj
 ·exact h y (aR hq)
section
variable {P:c6} {E:fS} {σ:St} {a:Act} {w:bL} {c:e_} {o:fD} {nm:aF} {e:s5}
theorem zt{ex:aX}{k:Ck}{x:AV}{cv:CV}{ws:aA (aF×eU)}{u:bk}(hp:plain [k]=ai)(h:(IH ex k x).val σ=ah (cv,ws))(hx:eM E w c x u):cv.kd=k/\Sc u cv/\uD cv=ak/\ws=[]:=by
 cases k with
 |i k=>
  cases x with
  |i k' n=>
   replace h:(if k=k' then Rd.ret (CV.i k n,[])else .fail:Rd (CV×aA (aF×eU))).val σ=ah (cv,ws):=h;split at h
   ·rename_i hk;subst hk;obtain⟨rfl,rfl⟩:=bW (aJ h);exact⟨rfl,⟨hx,trivial⟩,rfl,rfl⟩
   ·simp at h
  |_=>simp[IH]at h
 |b=>
  cases x with
  |b n=>obtain⟨rfl,rfl⟩:=bW (aJ h);exact⟨rfl,⟨hx,trivial⟩,rfl,rfl⟩
  |_=>simp[IH]at h
 |s=>
  cases x with
  |s n=>obtain⟨rfl,rfl⟩:=bW (aJ h);exact⟨rfl,hx,rfl,rfl⟩
  |_=>simp[IH]at h
 |l=>simp[plain]at hp
 |o=>simp[plain]at hp
theorem Ce{ex:aX}:∀{ks:aA Ck} {xs:aA AV} {cs:aA CV} {ws:aA (aF×eU)} (hp:plain ks=ai) (h:(zu ex ks xs).val σ=ah (cs,ws)),cs.map CV.kd=ks/\cs.length=xs.length/\ws=[]/\
  ∀(vals:dv bk),f_ E w c vals xs->∀(q:aF) (x:CV),cs[q]? =ah x->vals[q]? =ah (Qc x)/\uD x=ak/\okC x:=by
 intro ks;induction ks with
 |nil=>
  intro xs cs ws hp h;cases xs with
  |nil=>obtain⟨rfl,rfl⟩:=bW (aJ h);exact⟨rfl,rfl,rfl,λ_ _ q x hq=>by simp at hq⟩
  |cons=>simp[zu]at h
 |cons k ks ih=>
  intro xs cs ws hp h;cases xs with
  |nil=>simp[zu]at h
  |cons x xs=>
   obtain⟨⟨cv,w1⟩,h1,h⟩:=Rd.bind_some h;obtain⟨⟨cr,w2⟩,h2,h⟩:=Rd.bind_some h;obtain⟨rfl,rfl⟩:=bW (aJ h);simp only[plain,s7,aL]at hp;have Pz:plain [k]=true:=by simp[plain,hp.1]
   have hp2:plain ks=true:=hp.2;obtain⟨i1,i2,i3,i4⟩:=ih hp2 h2;have e1:=λu (hu:eM E w c x u)=>zt Pz h1 hu;have kd1:cv.kd=k/\w1=[]:=by
    cases k<;>cases x<;>simp[IH,plain]at h1 Pz<;>first
     |(obtain⟨rfl,rfl⟩:=h1;exact⟨rfl,rfl⟩)
     |(split at h1<;>simp at h1;rename_i hk;subst hk;obtain⟨rfl,rfl⟩:=h1;exact⟨rfl,rfl⟩)
   refine⟨by simp[kd1.1,i1],by simp[i2],by rw[kd1.2,i3];rfl,λvals hv q y hq=> ?_⟩
   cases q with
   |zero=>cases hq;obtain⟨u,hu,ha⟩:=hv.2 0 x rfl;obtain⟨_,⟨rfl,ho⟩,hl,_⟩:=e1 u ha;exact⟨hu,hl,ho⟩
   |succ q=>
    have Ny:f_ E w c (vals.extract 1 vals.size) xs:=by
     refine⟨by simp;have:=hv.1;simp at this;omega,λj b hj=> ?_⟩
     obtain⟨u,hu,hb⟩:=hv.2 (j+1) b hj;refine⟨u, ?_,hb⟩
     have:=(dV.1 hu).1;rw[ed,bz (by omega),ja];exact hu
    obtain⟨r1,r2⟩:=i4 _ Ny q y hq;refine⟨?_,r2⟩
    rw[ed]at r1;split at r1
    ·rw[ja];exact r1
    ·cases r1
theorem ZY{s:Sem Unit}{w':bL}(hr:s.run P w= .ok () w'):(do s;pure Next.skip:Sem Next).run P w= .ok .skip w':=by simp only[cm,hr,bG,cU]
theorem Fj:∀{ys:aA AV} {q0 q n2:aF},zJ q0 ys=ah (q,n2)->q0<=q/\ys[q-q0]? =ah (.own n2)/\∀(k m:aF),ys[k]? =ah (.own m)->k=q-q0:=by
 have Zj:∀{ys:aA AV},Jy ys=ai->∀(k m:aF),ys[k]? ≠ah (.own m):=by
  intro ys;induction ys with
  |nil=>intro h k m h;simp at h
  |cons y ys ih=>
   intro h k m hk;cases y with
   |own n=>cases h
   |_=>
    cases k with
    |zero=>cases hk
    |succ k=>exact ih (by simpa [Jy]using h) k m hk
 intro ys;induction ys with
 |nil=>intro q0 q n2 h;cases h
 |cons y ys ih=>
  intro q0 q n2 h;have step:zJ (q0+1) ys=ah (q,n2)->(∀m,y≠ .own m)->q0<=q/\(y::ys)[q-q0]? =ah (.own n2)/\∀(k m:aF),(y::ys)[k]? =ah (.own m)->k=q-q0:=by
   intro h hy;obtain⟨h1,h2,h3⟩:=ih h;have e:q-q0=(q-(q0+1))+1:=by omega
   refine⟨by omega,by rw[e,dP];exact h2,λk m hk=> ?_⟩
   cases k with
   |zero=>cases hk;exact cK rfl (hy m)
   |succ k=>have:=h3 k m hk;omega
  cases y with
  |own n=>
   unfold zJ at h;cases h1:Jy ys with
   |false=>rw[h1]at h;cases h
   |true=>
    rw[h1]at h;cases h;refine⟨cG _,by rw[Nat.sub_self];rfl,λk m hk=> ?_⟩
    cases k with
    |zero=>omega
    |succ k=>exact cK hk (Zj h1 k m)
  |_=>exact step (by simpa [zJ]using h) (λm h=>by cases h)
theorem Xp{E:fS}{w:bL}{c:e_}{e2 n2:aF}{zs:aQ}:∀{ks:aA Ck} {ys:aA AV} {cs:aA CV},DV e2 n2 zs ks ys=ah cs->cs.map CV.kd=ks/\cs.length=ys.length/\
  ∀(q:aF) (x:CV),cs[q]? =ah x->∃y,ys[q]? =ah y/\((uD x=ak/\∀u,eM E w c y u->Sc u x)\/(x= .l e2 zs/\y= .own n2)):=by
 intro ks;induction ks with
 |nil=>
  intro ys cs h;cases ys with
  |nil=>cases h;exact⟨rfl,rfl,λq x h=>by simp at h⟩
  |cons=>cases h
 |cons k ks ih=>
  intro ys cs h
  have go:∀{y:AV} {r:aA AV} {x:CV},ys=y::r->(DV e2 n2 zs ks r).map (x:: ·)=ah cs->x.kd=k->((uD x=ak/\∀u,eM E w c y u->Sc u x)\/(x= .l e2 zs/\y= .own n2))->
    cs.map CV.kd=k::ks/\cs.length=ys.length/\∀(q:aF) (x:CV),cs[q]? =ah x->∃y,ys[q]? =ah y/\((uD x=ak/\∀u,eM E w c y u->Sc u x)\/(x= .l e2 zs/\y= .own n2)):=by
   intro y r x hy hm hk hx
   subst hy
   cases hr:DV e2 n2 zs ks r with
   |none=>rw[hr]at hm;cases hm
   |some cr=>
    rw[hr]at hm;cases hm;obtain⟨i1,i2,i3⟩:=ih hr;refine⟨by simp[hk,i1],by simp[i2],λq z hq=> ?_⟩
    cases q with
    |zero=>cases hq;exact⟨y,rfl,hx⟩
    |succ q=>exact i3 q z hq
  cases ys with
  |nil=>cases k<;>cases h
  |cons y r=>
   cases k with
   |i k=>
    cases y with
    |i k' n=>
     unfold DV at h;split at h
     ·rename_i hk;subst hk;exact go rfl h rfl (.inl ⟨rfl,λu hu=>⟨hu,trivial⟩⟩)
     ·cases h
    |_=>cases h
   |b=>
    cases y with
    |b n=>exact go rfl h rfl (.inl ⟨rfl,λu hu=>⟨hu,trivial⟩⟩)
    |_=>cases h
   |s=>
    cases y with
    |s n=>exact go rfl h rfl (.inl ⟨rfl,λu hu=>hu⟩)
    |_=>cases h
   |l e=>
    cases y with
    |own n=>
     unfold DV at h;cases hb:(bD e e2&&bD n n2)with
     |false=>rw[hb]at h;cases h
     |true=>rw[hb,au]at h;simp only[aL]at hb;have:=aU hb.1;subst this;have:=aU hb.2;subst this;exact go rfl h rfl (.inr ⟨rfl,rfl⟩)
    |_=>cases h
   |o=>cases y<;>cases h
theorem Pf(cg:Ok E σ w c)(dL:fF E σ a w c)(hd:∀d,o.dst=ah d->d<a.tmps.size){n i j:aF}{ys:aA AV}{ws:aA (aF×eU)}{X:dv bk}(hF:zD n=ai)(hi:i<(c.P n).n)(h:(HC E n i j ys).val σ=ah ws)(oc:f_ E w c X ys)(lj:0<ys.length)
  (exec:∀(cur:dv bk),nZ w (c.P n).blk cur->(c.P n).off+i*(c.P n).sz+j+X.size<=cur.size->(execOp a.eval o).run P w= .ok .skip (w.setRow (c.P n).blk (eh cur ((c.P n).off+i*(c.P n).sz+j) X.toList))):gY P E σ a w c o (ws++dw o .un):=by
 unfold HC at h;obtain⟨ob,hg0,h⟩:=Rd.bind_some h;have hg:=dA hg0;split at h
 ·rename_i el xs;obtain⟨te,h6,h⟩:=Rd.bind_some h;have h6:=dX h6;split at h
  ·rename_i q n2 xI;cases hb0:bD n n2 with
   |true=>rw[hb0]at h;simp at h
   |false=>
    rw[hb0,ax]at h;have iA:n≠n2:=λe=>by subst e;rw[Nat.beq_refl]at hb0;cases hb0
    obtain⟨ob2,arT,h⟩:=Rd.bind_some h;have hg2:=dA arT;split at h
    ·rename_i e2 zs;obtain⟨t2,h7,h⟩:=Rd.bind_some h;have h7:=dX h7;obtain⟨h8,h⟩:=cS h;simp only[aL]at h8;obtain⟨sV,hle⟩:=h8;have hle:=cO hle;split at h
     ·rename_i cs HY;obtain rfl:=aJ h;obtain⟨m1,m2,m3⟩:=Xp (E:=E) (w:=w) (c:=c) HY;obtain⟨_,_,hu⟩:=Fj xI;rw[si]at hu;obtain⟨⟨t1,q1,gi,mN⟩,gg,gh⟩:=cg.obj n _ hg;obtain rfl:te=t1:=aJ (h6.symm.trans q1);obtain⟨⟨t3,q3,Lc,D3⟩,oQ,_⟩:=cg.obj n2 _ hg2;obtain rfl:t2=t3:=aJ (h7.symm.trans q3);have j7:j+cs.length<=te.ks.length:=by rw[m2];exact hle
      have hkd:cs.map CV.kd=(te.ks.drop j).take cs.length:=by rw[m1,m2]
      have mc:i<xs.length:=by rw[<-gg.n];exact hi
      obtain⟨jC,vals,hb⟩:=gg.pos hi;have Jb:=lk mN;have sK:=yq mN hkd j7 mc;have Cv:=lk sK;have same:∀i' j',gk (eJ xs i j cs) i' j'->gk xs i' j':=λi' j' hx=>(Jb i' j').2 (by have:=(Cv i' j').1 hx;rwa[jW]at this);have Jj:∀y∈xs,y.length=(c.P n).sz:=λy hy=>by rw[gi,<-mN y hy];simp
      let w':=w.setRow (c.P n).blk (eh vals ((c.P n).off+i*(c.P n).sz+j) X.toList);have rO:∀b,b≠(c.P n).blk->w'.heap[b]? =w.heap[b]? :=λb hb=>setRow_other w _ b _ hb;have auV:∀i j,¬gk zs i j:=by rintro i j ⟨y,x,h1,h2,h3⟩;rw[iv sV (D3 y (aR h1)) h2]at h3;cases h3
      have Zr:(c.P n2).nil=ak->fM c n2 (.row e2 ai zs) (c.P n2).blk:=λhn=> .inl ⟨hn,rfl⟩;have LF:fM c n (.row el ai xs) (c.P n).blk:= .inl ⟨jC,rfl⟩;have aj0:(c.P n2).nil=ak->(c.P n2).blk≠(c.P n).blk:=λhn he=>iA (cg.sep n _ n2 _ _ hg hg2 LF (by rw[<-he];exact Zr hn));let c':e_:=⟨c.P,λm i' j'=>if m=n/\i'=i/\j'=j+q then c.P n2 else c.G m i' j',c.K⟩
      have hG1:c'.G n i (j+q)=c.P n2:=bz ⟨rfl,rfl,rfl⟩;have hG2:∀i' j',¬(i'=i/\j'=j+q)->c'.G n i' j'=c.G n i' j':=λi' j' h=>bH (λe=>h ⟨e.2.1,e.2.2⟩);have hG3:∀m,m≠n->c'.G m=c.G m:=λm hm=>by funext i' j';exact bH (λe=>hm e.1)
      have X6:∀i' j',gk (eJ xs i j cs) i' j'->(c'.G n i' j').nil=ak->(i'=i/\j'=j+q/\(c.P n2).nil=ak/\(c'.G n i' j').blk=(c.P n2).blk)\/(¬(i'=i/\j'=j+q)/\(c.G n i' j').nil=ak/\(c'.G n i' j').blk=(c.G n i' j').blk/\fM c n (.row el ai xs) (c.G n i' j').blk):=by
       intro i' j' hh hn;by_cases he:i'=i/\j'=j+q
       ·obtain⟨rfl,rfl⟩:=he;rw[hG1]at hn⊢;exact .inl ⟨rfl,rfl,hn,rfl⟩
       ·rw[hG2 i' j' he]at hn⊢;exact .inr ⟨he,hn,rfl, .inr ⟨rfl,i',j',same i' j' hh,hn,rfl⟩⟩
      obtain⟨mI,AZ⟩:=jj.alG (R':=λi1 j1 u1 x1=>if ai=ai then XC E w' (c'.G n) i1 j1 u1 x1 else da E w' c'.K u1 x1) gg hb Jj (i:=i) (j:=j) (cs:=cs) (vs:=X.toList) hi (by rw[gi];exact j7) (by rw[dS,oc.1,m2])
       (λk x hk=>by
        obtain⟨y,hy,hxy⟩:=m3 k x hk;obtain⟨u,hu1,hu2⟩:=oc.2 k y hy;refine⟨u,by rw[cZ];exact hu1, ?_⟩
        rw[bz rfl];rcases hxy with ⟨hl,hsc⟩|⟨rfl,rfl⟩
        ·exact uM hl (hsc u hu2)
        ·have wb:k=q:=hu k n2 hy;subst wb;have hu2:u=lT (c.P n2):=hu2;refine⟨by rw[hG1];exact hu2,t2,h7,sV,by rw[hG1];exact Lc,D3, ?_⟩
         rw[hG1];exact oQ.frame (λhn=>rO _ (aj0 hn)) (λi1 j1 y1 x1 u1 g1 g2 hr=>by rw[bz rfl]at hr;exact uO hr (iv sV (D3 y1 (aR g1)) g2)))
       (λi1 y1 j1 x1 u1 h1 h2 asm hr=>by
        rw[bz rfl]at hr⊢;have D1:XC E w' (c.G n) i1 j1 u1 x1:=hr.frame (λhl hn=>rO _ ((gh rfl).out i1 j1 ⟨y1,x1,h1,h2,hl⟩ hn jC));have ar_:¬(i1=i/\j1=j+q):=by
         rintro ⟨rfl,rfl⟩;have hq:q<cs.length:=by obtain⟨_,hq,_⟩:=Fj xI;rw[si]at hq;rw[m2];exact(aT.1 hq).1
         rcases asm with h|h
         ·exact h rfl
         ·exact h ⟨by omega,by omega⟩
        cases x1 with
        |l ee zz=>obtain⟨r1,r2⟩:=D1;unfold XC;rw[hG2 i1 j1 ar_];exact⟨r1,r2⟩
        |i=>exact D1
        |b=>exact D1
        |s=>exact D1)
      have hr:=exec vals hb (by rw[dS]at mI;exact mI);let σ1:=pP (pP σ (c9 n) (.o (.row el ai (eJ xs i j cs)))) (c9 n2) (.o .dead);obtain⟨s1,s2,s3⟩:=sb σ1 o .un;have key:∀m,wr σ1 (dw o .un) (c9 m)=if m=n2 then .o .dead else if m=n then .o (.row el ai (eJ xs i j cs))else σ (c9 m):=λm=>by rw[s3];show(pP (pP σ (c9 n) (.o (.row el ai (eJ xs i j cs)))) (c9 n2) (.o .dead)) (c9 m)=_;rw[qb,qb]
      have ajd:∀m,σ (c9 m)≠ .j8->wr σ1 (dw o .un) (c9 m)≠ .j8:=λm hm=>by rw[key];split;simp;split;simp;exact hm
      have hA:q_ σ c c':=λm _=>⟨rfl,λhf=>hG3 m (λe=>by subst e;rw[hF]at hf;cases hf)⟩
      have hCh:∀m,m=n\/m=n2->∃ob,σ (c9 m)= .o ob:=by rintro m (rfl|rfl);exact⟨_,hg⟩;exact⟨_,hg2⟩
      have gP:∀m x,(m=n\/m=n2)->wr σ1 (dw o .un) (c9 m)= .o x->(m=n2/\x= .dead)\/(m=n/\x= .row el ai (eJ xs i j cs)):=by
       intro m x hm hx;rw[key]at hx;by_cases Xo:m=n2
       ·rw[bz Xo]at hx;cases hx;exact .inl ⟨Xo,rfl⟩
       ·rw[bH Xo,bz (hm.resolve_right Xo)]at hx;cases hx;exact .inr ⟨hm.resolve_right Xo,rfl⟩
      have hh:=cg.wY (σ':=wr σ1 (dw o .un)) (w':=w') (c':=c') (λm=>m=n\/m=n2) (λm hm=>by rw[key,bH (λe=>hm (.inr e)),bH (λe=>hm (.inl e))]) ajd hA (λm hm _=>hG3 m (λe=>hm (.inl e)))
       (λb _ XO=>rO b (λe=>XO ⟨n,_, .inl rfl,hg,by rw[e];exact LF⟩)) (by simp[w',lH]) (λ_ h=>h) (λ_ h=> .inl h) (λb hb=>jw (cg.lt b hb) (by simp[w',lH]))
       (λm x hm hx=>by
        rcases gP m x hm hx with ⟨rfl,rfl⟩|⟨rfl,rfl⟩
        ·trivial
        ·refine⟨⟨te,q1,gi,sK⟩,AZ,λ_=>⟨λi1 j1 hh hn _ he=> ?_,λi1 j1 i2 j2 h1 h2 n1 n2' he=> ?_⟩⟩
         ·rcases X6 i1 j1 hh hn with ⟨_,_,g1,g2⟩|⟨_,g1,g2,g3⟩
          ·exact aj0 g1 (g2.symm.trans he)
          ·exact(gh rfl).out i1 j1 (same i1 j1 hh) g1 jC (g2.symm.trans he)
         ·rcases X6 i1 j1 h1 n1 with ⟨a1,a2,a3,a4⟩|⟨a1,a2,a3,a4⟩<;>rcases X6 i2 j2 h2 n2' with ⟨b1,b2,b3,b4⟩|⟨b1,b2,b3,b4⟩
          ·exact⟨a1.trans b1.symm,a2.trans b2.symm⟩
          ·exfalso;exact iA (cg.sep m _ n2 _ _ hg hg2 b4 (by rw[<-b3,<-he,a4];exact Zr a3))
          ·exfalso;exact iA (cg.sep m _ n2 _ _ hg hg2 a4 (by rw[<-a3,he,b4];exact Zr b3))
          ·exact(gh rfl).one i1 j1 i2 j2 (same i1 j1 h1) (same i2 j2 h2) a2 b2 (a3.symm.trans (he.trans b3)))
       (λm x b hm hx hf=>by
        rcases gP m x hm hx with ⟨rfl,rfl⟩|⟨rfl,rfl⟩
        ·exact hf.elim
        ·have ai5:j_ (λk=>k=m\/k=n2) σ c b:=by
          rcases hf with ⟨_,rfl⟩|⟨_,i1,j1,hh,hn,rfl⟩
          ·exact⟨m,_, .inl rfl,hg,LF⟩
          ·rcases X6 i1 j1 hh hn with ⟨_,_,g1,g2⟩|⟨_,g1,g2,g3⟩
           ·rw[g2];exact⟨n2,_, .inr rfl,hg2,Zr g1⟩
           ·rw[g2];exact⟨m,_, .inl rfl,hg,g3⟩
         exact⟨.inl ai5,cg.Jz ai5.own⟩)
       (λm x m' x' b hm xH hx pI hf vp=>by
        rcases gP m x hm hx with ⟨rfl,rfl⟩|⟨rfl,rfl⟩
        ·exact hf.elim
        ·rcases gP m' x' xH pI with ⟨rfl,rfl⟩|⟨rfl,rfl⟩
         ·exact vp.elim
         ·rfl)
       (λm bs hm hx=>by rcases gP m _ hm hx with ⟨_,h⟩|⟨_,h⟩<;>cases h) rfl rfl rfl
      intro K Q hK;refine Dk hr (hK undef w' c' hh.1 ?_ hh.2 hA);refine dL.wY cg hh.2 hA ajd o undef (λk hk=>by rw[s1 k hk];show slot (pP (pP σ (c9 n) (.o (.row el ai (eJ xs i j cs)))) (c9 n2) (.o .dead)) k=_;rw[jr,jr]) (λd ho=>⟨hd d ho, ?_, ?_⟩)
      ·rw[s2 d ho];trivial
      ·rw[s2 d ho];intro k hk;simp[cQ]at hk
     ·simp at h
    ·simp at h
  ·simp at h
 ·simp at h
theorem Uz(hE:eH P E)(cg:Ok E σ w c)(dL:fF E σ a w c)(hd:∀d,o.dst=ah d->d<a.tmps.size){t:aF}{p x:dz}(ho:o.op= .store t p x)(h:(mg E nm o).val σ=ah e):gY P E σ a w c o e.ws:=by
 simp only[mg,ho]at h;obtain⟨ti,h1,h⟩:=Rd.bind_some h;obtain⟨pv,h2,h⟩:=Rd.bind_some h;obtain⟨xv,h3,h⟩:=Rd.bind_some h;have h1:=dX h1;obtain⟨ep,kp⟩:=i_ dL h2;obtain⟨ex,kx⟩:=mw dL h3;cases xv with
 |v g ys=>
  obtain⟨h4,h⟩:=cS h;have h4:=aU h4;obtain⟨ws,h5,h⟩:=Rd.bind_some h;obtain rfl:=aJ h;have oc:=qn.cells ex;have HY:(a.eval x).cells.size=ti.ks.length:=by rw[oc.1,h4]
  have ky:∀b∈ys,jh σ b:=λb hb n hn=>kx n (bQ.2 ⟨b,hb,hn⟩);obtain⟨_,_,_,_,lj,_⟩:=hE.info t ti h1;have exec:∀{b of:aF} {cur:dv bk},a.eval p= .pointer (ah (ad b of))->nZ w b cur->of+(a.eval x).cells.size<=cur.size->(execOp a.eval o).run P w= .ok .skip (w.setRow b (eh cur of (a.eval x).cells.toList)):=by intro b of cur hp hb hf;unfold execOp;rw[ho];refine ZY ?_;rw[hp];exact JP w hE h1 HY hb hf oc.one
  have hkK:∀(b:aF) (new:dv bk),wI σ c b->∀b',c.K b'->(w.setRow b new).heap[b']? =w.heap[b']? :=by intro b new hb b' hk;exact setRow_other w b b' new (λe=>by subst e;exact cg.Jz hb hk)
  have h5:(HD E pv ys).val σ=ah ws\/∃n i j,pv= .rp n i j/\zD n=ai/\(HC E n i j ys).val σ=ah ws:=by
   cases pv with
   |rp n i j=>
    unfold VN at h5;simp only at h5;cases hF:zD n with
    |true=>rw[hF,au]at h5;exact .inr ⟨n,i,j,rfl,hF,h5⟩
    |false=>rw[hF,ax]at h5;exact .inl h5
   |_=>exact .inl h5
  rcases h5 with h5|⟨n,i,j,rfl,hF,h5⟩
  rotate_left
  ·obtain⟨hpi,hpv⟩:=ep;exact Pf cg dL hd hF hpi h5 oc (by rw[<-h4]at lj;exact lj) (λcur hb hf=>exec hpv hb hf)
  cases pv with
  |bp n j=>
   obtain⟨ob,hg,h5⟩:=Rd.bind_some h5;have hg:=dA hg;cases ob with
   |box xs=>
    obtain⟨h6,h5⟩:=cS h5;have h6:=cO h6;obtain rfl:=aJ h5;obtain⟨cur,hb,gi,hcv⟩:=cg.obj n _ hg;have wc:wI σ c (c.P n).blk:=⟨n,_,hg,rfl⟩
    have mI:j+(a.eval x).cells.size<=cur.size:=by rw[oc.1,gi];exact h6
    have ai0:j+(a.eval x).cells.toList.length<=cur.size:=by rw[dS];exact mI
    have Ai:=hkK (c.P n).blk (eh cur j (a.eval x).cells.toList) wc;refine tE cg dL hd hg (ob':= .box (iH xs j ys)) ?_ (λb hb=>hb) (λzs hz b hb=> ?_) (s:= .un) trivial (λn hn=>by simp[cQ]at hn) (λb hb QA=>setRow_other w _ b _ (λe=>QA e)) (by simp[lH]) rfl rfl rfl (.inr ⟨exec ep hb mI,rfl⟩)
    ·have:=(f_.put (E:=E) (w:=w) (c:=c) ⟨gi,hcv⟩ oc h6)
     refine⟨_,hb.setRow (fj ai0),this.1,λq b hq=> ?_⟩
     obtain⟨u,hu,hub⟩:=this.2 q b hq;exact⟨u,hu,hub.frame Ai (λ_ h=>h) (λ_ _=>⟨rfl,rfl⟩)⟩
    ·cases hz;rcases CD hb with hb|hb
     ·exact cg.kn n xs hg b hb
     ·exact ky b hb
   |_=>simp at h5
  |rp n i j=>
   obtain⟨ob,hg,h5⟩:=Rd.bind_some h5;have hg:=dA hg;cases ob with
   |row el AY xs=>
    obtain⟨te,h6,h5⟩:=Rd.bind_some h5;have h6:=dX h6;obtain⟨h7,h5⟩:=cS h5;obtain⟨⟨cs,w2⟩,h8,h5⟩:=Rd.bind_some h5;obtain rfl:=aJ h5;obtain⟨m1,m2,_,m3⟩:=Ce (E:=E) (w:=w) (c:=c) h7 h8;obtain⟨⟨t2,q1,gi,mN⟩,gg,gh⟩:=cg.obj n _ hg;obtain rfl:te=t2:=aJ (h6.symm.trans q1);obtain⟨hi,hpv⟩:=ep;have hlk:cs.length=((te.ks.drop j).take ys.length).length:=by rw[<-m1];simp
    have j7:j+cs.length<=te.ks.length:=by
     rw[eD,iE]at hlk;have:0<cs.length:=by rw[m2,h4];exact lj
     omega
    have hkd:cs.map CV.kd=(te.ks.drop j).take cs.length:=by rw[m1,m2]
    have mc:i<xs.length:=by rw[<-gg.n];exact hi
    have jC:(c.P n).nil=false:=by
     cases hn:(c.P n).nil with
     |false=>rfl
     |true=>have:=(gg.nil hn).1;subst this;simp at mc
    have wc:wI σ c (c.P n).blk:=⟨n,_,hg, .inl ⟨jC,rfl⟩⟩
    have Ai:=λnew=>hkK (c.P n).blk new wc;have Jb:=lk mN;have sK:=yq mN hkd j7 mc;have Cv:=lk sK;have same:∀i' j',gk (eJ xs i j cs) i' j'->gk xs i' j':=λi' j' hx=>(Jb i' j').2 (by have:=(Cv i' j').1 hx;rwa[jW]at this);obtain⟨_,vals,hb⟩:=gg.pos hi;have Jj:∀y∈xs,y.length=(c.P n).sz:=λy hy=>by rw[gi,<-mN y hy];simp
    have arR:=Ai (eh vals ((c.P n).off+i*(c.P n).sz+j) (a.eval x).cells.toList);have hw:∀b,c.K b->(w.setRow (c.P n).blk (eh vals ((c.P n).off+i*(c.P n).sz+j) (a.eval x).cells.toList)).heap[b]? =w.heap[b]? :=arR;generalize Nv:w.setRow (c.P n).blk (eh vals ((c.P n).off+i*(c.P n).sz+j) (a.eval x).cells.toList)=w' at hw;have rO:∀b,b≠(c.P n).blk->w'.heap[b]? =w.heap[b]? :=λb hb=>by rw[<-Nv];exact setRow_other w _ b _ hb
    obtain⟨mI,AZ⟩:=jj.put (R':=λi1 j1 u1 x1=>if AY=ai then XC E w' (c.G n) i1 j1 u1 x1 else da E w' c.K u1 x1) gg hb Jj (i:=i) (j:=j) (cs:=cs) (vs:=(a.eval x).cells.toList) hi (by rw[gi];exact j7) (by rw[dS,oc.1,m2])
     (λq y hq=>by
      obtain⟨r1,r2,r3⟩:=m3 _ oc q y hq;refine⟨Qc y,by rw[cZ];exact r1, ?_⟩
      split
      ·exact uM r2 ⟨rfl,r3⟩
      ·exact kR r2 ⟨rfl,r3⟩)
     (λi1 y1 j1 x1 u1 h1 h2 hr=>by
      cases AY with
      |true=>rw[bz rfl]at hr⊢;exact hr.frame (λhl hn=>rO _ ((gh rfl).out i1 j1 ⟨y1,x1,h1,h2,hl⟩ hn jC))
      |false=>rw[bH (by simp)]at hr⊢;exact hr.frame hw (λ_ h=>h))
    rw[Nv]at AZ;refine tE cg dL hd hg (ob':= .row el AY (eJ xs i j cs)) ?_ ?_ (λzs hz=>by cases hz) (s:= .un) trivial (λn hn=>by simp[cQ]at hn) (w':=w') (λb hb QA=>rO b (λe=>QA (.inl ⟨jC,e⟩))) (by rw[<-Nv];simp[lH]) (by rw[<-Nv];rfl) (by rw[<-Nv];rfl) (by rw[<-Nv];rfl) (.inr ⟨?_,rfl⟩)
    ·exact⟨⟨te,q1,gi,sK⟩,AZ,λhx=>⟨λi1 j1 hh=>(gh hx).out i1 j1 (same i1 j1 hh),λi1 j1 i2 j2 h1 h2=>(gh hx).one i1 j1 i2 j2 (same i1 j1 h1) (same i2 j2 h2)⟩⟩
    ·rintro b (hb|⟨hx,i1,j1,hh,hn⟩)
     ·exact .inl hb
     ·exact .inr ⟨hx,i1,j1,same i1 j1 hh,hn⟩
    ·rw[<-Nv];refine exec hpv hb ?_;rw[dS]at mI;exact mI
   |_=>simp at h5
  |ip n i j i2 j2=>
   obtain⟨ob,hg,h5⟩:=Rd.bind_some h5;have hg:=dA hg;cases ob with
   |row el AY xs=>
    cases AY with
    |false=>simp at h5
    |true=>
    obtain⟨te,h6,h5⟩:=Rd.bind_some h5;have h6:=dX h6;split at h5
    ·rename_i e2 Aj;obtain⟨t2,h7,h5⟩:=Rd.bind_some h5;have h7:=dX h7;obtain⟨h8,h5⟩:=cS h5;obtain⟨⟨cs,w2⟩,h9,h5⟩:=Rd.bind_some h5;obtain rfl:=aJ h5;have ajj:plain ((t2.ks.drop j2).take ys.length)=true:=bu.2 (λk hk=>bu.1 h8 k (kZ (k_ hk)));obtain⟨m1,m2,_,m3⟩:=Ce (E:=E) (w:=w) (c:=c) ajj h9;obtain⟨⟨hi,sr,hpv⟩,_⟩:=ep;obtain⟨⟨t1,q1,gi,mN⟩,gg,gh⟩:=cg.obj n _ hg;obtain rfl:te=t1:=aJ (h6.symm.trans q1);obtain⟨zs,y,t3,r1,r2,r3,r4,r5,r6,r7,_⟩:=Bu cg hg h6 Aj hi;obtain rfl:t2=t3:=aJ (h7.symm.trans r3);rw[fH r1 r2];simp only[jx];have hlk:cs.length=((t2.ks.drop j2).take ys.length).length:=by rw[<-m1];simp
     have j7:j2+cs.length<=t2.ks.length:=by
      rw[eD,iE]at hlk;have:0<cs.length:=by rw[m2,h4];exact lj
      omega
     have hkd:cs.map CV.kd=(t2.ks.drop j2).take cs.length:=by rw[m1,m2]
     have arW:i2<zs.length:=by rw[<-r7.n];exact sr
     have mc:i<xs.length:=(aT.1 r1).1;obtain⟨Cy,vals,hb⟩:=r7.pos sr;obtain⟨jC,pv,hpb⟩:=gg.pos hi;have DZ:gk xs i j:=⟨y,_,r1,r2,rfl⟩
     have wc:wI σ c (c.G n i j).blk:=⟨n,_,hg, .inr ⟨rfl,i,j,DZ,Cy,rfl⟩⟩
     have hw:=hkK (c.G n i j).blk (eh vals ((c.G n i j).off+i2*(c.G n i j).sz+j2) (a.eval x).cells.toList) wc;have Le:∀y∈zs,y.length=(c.G n i j).sz:=λy hy=>by rw[r5,<-r6 y hy];simp
     obtain⟨mI,AZ⟩:=jj.put (R':=λ_ _ u1 x1=>Sc u1 x1) r7 hb Le (i:=i2) (j:=j2) (cs:=cs) (vs:=(a.eval x).cells.toList) sr (by rw[r5];exact j7) (by rw[dS,oc.1,m2])
      (λq y hq=>⟨Qc y,by rw[cZ];exact(m3 _ oc q y hq).1,rfl,(m3 _ oc q y hq).2.2⟩) (λ_ _ _ _ _ _ _ hr=>hr)
     generalize Nv:w.setRow (c.G n i j).blk (eh vals ((c.G n i j).off+i2*(c.G n i j).sz+j2) (a.eval x).cells.toList)=w' at hw AZ;have rO:∀b,b≠(c.G n i j).blk->w'.heap[b]? =w.heap[b]? :=λb hb=>by rw[<-Nv];exact setRow_other w _ b _ hb
     have hjk:j<te.ks.length:=(aT.1 Aj).1;have aff:[CV.l e2 (eJ zs i2 j2 cs)].map CV.kd=(te.ks.drop j).take [CV.l e2 (eJ zs i2 j2 cs)].length:=by rw[bA,List.take_one,List.head?_drop,Aj];rfl
     have sK:=yq (i:=i) (j:=j) (cs:=[CV.l e2 (eJ zs i2 j2 cs)]) mN aff (by simp;omega) mc;have Jb:=lk mN;have Cv:=lk sK;have same:∀i' j',gk (eJ xs i j [CV.l e2 (eJ zs i2 j2 cs)]) i' j'->gk xs i' j':=λi' j' hx=>(Jb i' j').2 (by have:=(Cv i' j').1 hx;rwa[jW]at this);have afn:(c.P n).blk≠(c.G n i j).blk:=λe=>(gh rfl).out i j DZ Cy jC e.symm;have oQ:jj w' (c.P n) (eJ xs i j [CV.l e2 (eJ zs i2 j2 cs)]) (λi1 j1 u1 x1=>if ai=ai then XC E w' (c.G n) i1 j1 u1 x1 else da E w' c.K u1 x1):=by
      obtain⟨vs,k1,k2,k3,k4,k5⟩:=gg.mem jC;refine⟨by rw[jW];exact gg.n,λhn=>(by rw[jC]at hn;cases hn),λ_=>⟨vs,k1.frame (rO _ afn),k2,k3,k4,λi1 y1 j1 x1 g1 g2=> ?_⟩⟩
      rw[yo r1]at g1;simp only[if_true]at k5⊢;by_cases Ja:i1=i
      ·subst Ja;rw[bz rfl]at g1;cases g1;have Jj:y.length=te.ks.length:=by rw[<-mN y (aR r1)];simp
       rw[pD (by simp;omega)]at g2;by_cases hq:j<=j1/\j1<j+[CV.l e2 (eJ zs i2 j2 cs)].length
       ·rw[bz hq]at g2;have:j1=j:=by simp at hq;omega
        subst this;simp at g2;subst g2;obtain⟨u,hu,hr⟩:=k5 _ _ _ _ r1 r2;refine⟨u,hu,hr.1,t2,r3,r4,r5,yq r6 hkd j7 arW,AZ⟩
       ·rw[bH hq]at g2;obtain⟨u,hu,hr⟩:=k5 _ _ _ _ r1 g2;refine⟨u,hu,hr.frame (λhl hn=>rO _ (λe=> ?_))⟩
        have:=((gh rfl).one _ _ _ _ ⟨y,x1,r1,g2,hl⟩ DZ hn Cy e).2;simp at hq;omega
      ·rw[bH Ja]at g1;obtain⟨u,hu,hr⟩:=k5 _ _ _ _ g1 g2;exact⟨u,hu,hr.frame (λhl hn=>rO _ (λe=>Ja ((gh rfl).one _ _ _ _ ⟨y1,x1,g1,g2,hl⟩ DZ hn Cy e).1))⟩
     refine tE cg dL hd hg (ob':= .row el ai (eJ xs i j [CV.l e2 (eJ zs i2 j2 cs)])) ?_ ?_ (λzs hz=>by cases hz) (s:= .un) trivial (λn hn=>by simp[cQ]at hn) (w':=w') (λb hb QA=>rO b (λe=>QA (.inr ⟨rfl,i,j,DZ,Cy,e⟩))) (by rw[<-Nv];simp[lH]) (by rw[<-Nv];rfl) (by rw[<-Nv];rfl) (by rw[<-Nv];rfl) (.inr ⟨?_,rfl⟩)
     ·exact⟨⟨te,q1,gi,sK⟩,oQ,λhx=>⟨λi1 j1 hh=>(gh hx).out i1 j1 (same i1 j1 hh),λi1 j1 i2 j2 h1 h2=>(gh hx).one i1 j1 i2 j2 (same i1 j1 h1) (same i2 j2 h2)⟩⟩
     ·rintro b (hb|⟨hx,i1,j1,hh,hn⟩)
      ·exact .inl hb
      ·exact .inr ⟨hx,i1,j1,same i1 j1 hh,hn⟩
     ·rw[<-Nv];refine exec hpv hb ?_;rw[dS]at mI;exact mI
    ·simp at h5
   |_=>simp at h5
  |_=>simp[HD]at h5
 |kj=>simp at h
 |un=>simp at h
end
end Go.FG

namespace Go.FG
theorem PZ{ks:aA Ck}(h:plain ks=ai):Lu ks=true:=by refine bu.2 (λk hk=> ?_);have:=bu.1 h k hk;cases k<;>first|rfl|exact this
theorem tQ{xs:aQ}{ks:aA Ck}(h:∀y∈xs,y.map CV.kd=ks)(hp:plain ks=ai){i j:aF}:¬gk xs i j:=by intro hx;obtain⟨_,e,hk⟩:=(lk h i j).1 hx;have:=bu.1 hp _ (aR hk);cases this
theorem IB{xs z:aQ}{lo hi:aF}(h1:lo<=hi)(h2:hi<=xs.length)(hz:z.length=hi-lo)(i:aF):(xs.take lo++z++xs.drop hi)[i]? =if lo<=i/\i<hi then z[i-lo]? else xs[i]? :=by
 by_cases a:i<lo
 ·rw[bH (by omega),cB,dI (by simp;omega),ea,bz a]
 ·by_cases b:i<hi
  ·rw[bz ⟨by omega,b⟩,cB,db (by simp;omega),dI (by simp;omega)];congr 1;simp;omega
  ·rw[bH (by omega),cB,db (by simp;omega),db (by simp;omega),dR];congr 1;simp;omega
section
variable {P:c6} {E:fS} {σ:St} {a:Act} {w:bL} {c:e_} {o:fD} {nm:aF} {e:s5}
theorem P_{t ty el:aF}{z:bk}{inf:Kl}(hu:P.underlying t=ah (.slice el))(hi:P.info? el=ah inf)(hz:inf.zero=ah z){b of n cp:aF}{cur:dv bk}(hn:0<n)(hb:nZ w b cur)(hf:of+n*z.cells.size<=cur.size)(h1:∀u∈z.cells.toList,u.oneCell'=ai):
  (oT #[t] ty #[.slice (ah (ad b of)) n cp]).run P w= .ok (.tuple #[]) (w.setRow b (eh cur of (madeCells z.cells (n*z.cells.size)).toList)):=by
 have Lb:=nM (P:=P) w (o:=of) (vs:=(madeCells z.cells (n*z.cells.size)).toList) hb (by simpa [size_madeCells]using hf) (λv hv=>by
  unfold madeCells at hv;simp only[Aw,cX]at hv;obtain⟨q,hq,rfl⟩:=hv;have hq:q<n*z.cells.size:=by simpa using hq
  have hp:0<z.cells.size:=by rcases Dq z.cells.size with h|h;(rw[h]at hq;simp at hq);exact h
  have:q%z.cells.size<z.cells.size:=Ds _ hp;rw[getElem!_pos z.cells _ this];exact h1 _ (by simp))
 have hz':(fO z.cells n)=madeCells z.cells (n*z.cells.size):=rfl;cases n with
 |zero=>omega
 |succ n=>simp[oT,run_underlying hu,zeroValue,typeInfo,hi,hz,hz',Lb]
theorem C4{t ty el:aF}(hu:P.underlying t=ah (.slice el)){A:az Addr}{cp:aF}:(oT #[t] ty #[.slice A 0 cp]).run P w= .ok (.tuple #[]) w:=by cases A<;>simp[oT,run_underlying hu]
theorem Uv(hE:eH P E)(cg:Ok E σ w c)(dL:fF E σ a w c)(hd:∀d,o.dst=ah d->d<a.tmps.size){cl:Call}(ho:o.op= .call cl)(hb:cl.callee= .builtin .clear)(h:(mg E nm o).val σ=ah e):gY P E σ a w c o e.ws:=by
 simp only[mg,ho,hb]at h;split at h
 ·rename_i x hx;split at h
  ·rename_i t ht;obtain⟨k,hk,h⟩:=Rd.bind_some h;cases k with
   |l el=>
    obtain⟨v,h1,h⟩:=Rd.bind_some h;obtain⟨ws,h2,h⟩:=Rd.bind_some h;obtain rfl:=aJ h;obtain⟨ev,kv⟩:=i_ dL h1;have hu:=kM hE hk;have hx:=nH hx;have ht:=nH ht;have exec:∀{w'},(oT #[t] o.type #[a.eval x]).run P w= .ok (.tuple #[]) w'->(execOp a.eval o).run P w= .ok (.value (.tuple #[])) w':=by intro w' hr;obtain⟨cs,HY⟩:=mV (P:=P) (a:=a) (w:=w) ho hb;rw[HY,hx,ht];simp only[builtin,DE,fE,BU];exact i9 hr
    have sv:jk E w c (.kj []) (.tuple #[]):=⟨#[],rfl,rfl,λj agg xs hj=>by simp at hj⟩
    have aj:∀A cp,a.eval x= .slice A 0 cp->(execOp a.eval o).run P w= .ok (.value (.tuple #[])) w:=λA cp hv=>exec (by rw[hv];exact C4 hu);have main:∀(n:aF) (ex:aX) (xs:aQ) (lo hi:aF) (te:TI),σ (c9 n)= .o (.row el ex xs)->E.ty el=ah te->plain te.ks=ai->wV (c.P n) lo hi (a.eval x)->gY P E σ a w c o ([(c9 n, .o (.row el ex (xs.take lo++aP te.ks (hi-lo)++xs.drop hi)))]++dw o (.kj [])):=by
     intro n ex xs lo hi te hg Ld sV hv;obtain⟨⟨t2,q1,gi,mN⟩,gg,gh⟩:=cg.obj n _ hg;obtain rfl:te=t2:=aJ (Ld.symm.trans q1);obtain⟨v1,v2,v3,v4⟩:=hv;have hle:hi<=xs.length:=by rw[<-gg.n];exact v2
     have zA:=PZ sV;have Le:(aP te.ks (hi-lo)).length=hi-lo:=by simp[aP]
     by_cases hz:hi-lo=0
     ·have ajn:xs.take lo++aP te.ks (hi-lo)++xs.drop hi=xs:=by
       have:hi=lo:=by omega
       subst this;simp[aP]
      rw[ajn];have hr:(execOp a.eval o).run P w= .ok (.value (.tuple #[])) w:=by
       cases hq:(c.P n).nil with
       |true=>exact aj _ _ (v3 hq)
       |false=>
        rcases v4 hq with ⟨_,h⟩|⟨_,oo,_,h⟩
        ·rw[hz]at h;exact aj _ _ h
        ·exact aj _ _ h
      exact tE cg dL hd hg (cg.obj n _ hg) (λb hb=>hb) (λzs hz=>by cases hz) sv (λn hn=>by simp[cQ]at hn) (λb _ _=>rfl) (cG _) rfl rfl rfl (.inl hr)
     ·have jC:(c.P n).nil=false:=by
       cases hq:(c.P n).nil with
       |false=>rfl
       |true=>have:=(gg.nil hq).1;subst this;simp at hle;omega
      obtain⟨vals,k1,k2,k3,k4,k5⟩:=gg.mem jC;rcases v4 jC with ⟨u1,hv⟩|⟨u1,oo,_,hv⟩
      ·obtain⟨inf,me,azw,_,_,J8⟩:=hE.info el te Ld;obtain⟨z,D6,hz3,_⟩:=J8 zA;have QE:z.cells.size=te.ks.length:=by rw[hz3];simp
       have XJ:(c.P n).off+lo*(c.P n).sz+(hi-lo)*z.cells.size<=vals.size:=by rw[QE,<-gi,l_,<-dq];have:(lo+(hi-lo))*(c.P n).sz<=(c.P n).cap*(c.P n).sz:=b8 _ (by omega);omega
       have hr:=P_ (P:=P) (w:=w) (ty:=o.type) (of:=(c.P n).off+lo*(c.P n).sz) (n:=hi-lo) (cp:=(c.P n).cap-lo) hu me D6 (by omega) k1 XJ (by rw[hz3];intro u sA;obtain⟨k,vt,rfl⟩:=cX.1 (by simpa using sA:u∈te.ks.map iN);cases k<;>rfl);rw[<-hv]at hr;have wc:wI σ c (c.P n).blk:=⟨n,_,hg, .inl ⟨jC,rfl⟩⟩
       rw[QE,hz3]at hr;have hml:(madeCells (te.ks.map iN).toArray ((hi-lo)*te.ks.length)).toList.length=(hi-lo)*te.ks.length:=by simp[size_madeCells]
       have ae7:(c.P n).off+lo*(c.P n).sz+(madeCells (te.ks.map iN).toArray ((hi-lo)*te.ks.length)).toList.length<=vals.size:=by rw[hml,<-QE];exact XJ
       have E2:=k1.setRow (fj ae7);have ai1:=gq ae7;generalize zy:eh vals ((c.P n).off+lo*(c.P n).sz) (madeCells (te.ks.map iN).toArray ((hi-lo)*te.ks.length)).toList=new at hr E2 ai1;have asa:new.size=vals.size:=by rw[<-zy];exact fj ae7
       have rO:∀b,b≠(c.P n).blk->(w.setRow (c.P n).blk new).heap[b]? =w.heap[b]? :=λb hb=>setRow_other w _ b _ hb;have hw:∀b,c.K b->(w.setRow (c.P n).blk new).heap[b]? =w.heap[b]? :=λb hk=>rO b (λe=>by subst e;exact cg.Jz wc hk);have sK:∀y∈xs.take lo++aP te.ks (hi-lo)++xs.drop hi,y.map CV.kd=te.ks:=by
        intro y hy;rw[ba,ba]at hy;rcases hy with (hy|hy)|hy
        ·exact mN y (k_ hy)
        ·exact yC zA _ y hy
        ·exact mN y (kZ hy)
       refine tE cg dL hd hg (ob':= .row el ex (xs.take lo++aP te.ks (hi-lo)++xs.drop hi)) ?_ ?_ (λzs hz=>by cases hz) (w':=w.setRow (c.P n).blk new) ⟨#[],rfl,rfl,λj agg xs hj=>by simp at hj⟩ (λn hn=>by simp[cQ]at hn) (λb _ QA=>rO b (λe=>QA (.inl ⟨jC,e⟩))) (by simp[lH]) rfl rfl rfl (.inl (exec hr))
       ·refine⟨⟨te,Ld,gi,sK⟩,⟨?_,λhn=>(by rw[jC]at hn;cases hn),λ_=>⟨new,E2,k2,k3,by rw[asa];exact k4,λi y j x mc hj=> ?_⟩⟩,λ_=>⟨λi j hh=>cK hh (tQ sK sV),λi j i' j' hh=>cK hh (tQ sK sV)⟩⟩
        ·rw[gg.n];simp[aP];omega
        ·have hl:=iv sV (sK y (aR mc)) hj;have j7:j<te.ks.length:=by rw[<-sK y (aR mc),bU];exact(aT.1 hj).1
         have toR:∀u,Sc u x->(if ex=ai then XC E (w.setRow (c.P n).blk new) (c.G n) i j u x else da E (w.setRow (c.P n).blk new) c.K u x):=by
          intro u hu;split
          ·exact uM hl hu
          ·exact kR hl hu
         rw[IB v1 hle Le]at mc;rw[ai1,hml];by_cases hq:lo<=i/\i<hi
         ·rw[bz hq]at mc;obtain⟨ai4,k,hk1,rfl⟩:=uP mc hj;have h2:(i-lo+1)*te.ks.length<=(hi-lo)*te.ks.length:=b8 _ ai4;have h3:i*te.ks.length=lo*te.ks.length+(i-lo)*te.ks.length:=by rw[<-dq];congr 1;omega
          rw[dq]at h2;rw[gi,bz (by omega)];refine⟨iN k, ?_,toR _ ?_⟩
          ·have:=lU (n:=hi-lo) ai4 hk1;rw[cZ,<-this];congr 1;omega
          ·have XS:=bu.1 sV k (aR hk1);cases k<;>first|exact⟨rfl,trivial⟩|exact⟨rfl,bI _⟩|cases XS
         ·rw[bH hq]at mc;obtain⟨u,sA,D1⟩:=k5 i y j x mc hj;refine⟨u, ?_,toR u ?_⟩
          ·rw[bH ?_];exact sA;rw[gi];by_cases Cx:i<lo
           ·have:(i+1)*te.ks.length<=lo*te.ks.length:=b8 _ Cx;rw[dq]at this;omega
           ·have:hi*te.ks.length<=i*te.ks.length:=b8 _ (by omega);have h3:hi*te.ks.length=lo*te.ks.length+(hi-lo)*te.ks.length:=by rw[<-dq];congr 1;omega
            omega
          ·split at D1
           ·exact uO D1 hl
           ·exact pA D1 hl
       ·rintro b (hb|⟨_,i,j,hh,_⟩)
        ·exact .inl hb
        ·exact cK hh (tQ sK sV)
      ·omega
    unfold Sr at h2;cases v with
    |nl=>obtain rfl:=aJ h2;exact gJ cg dL hd sv (λn hn=>by simp[cQ]at hn) (aj _ _ ev)
    |own n=>
     obtain⟨ob,hg,h2⟩:=Rd.bind_some h2;have hg:=dA hg;cases ob with
     |row e' ex xs=>obtain⟨te,q1,h2⟩:=Rd.bind_some h2;obtain⟨q2,h2⟩:=cS h2;obtain rfl:=aJ h2;simp only[aL]at q2;have:=aU q2.1;subst this;have ev:a.eval x=lT (c.P n):=ev;have:=main n ex xs 0 xs.length te hg (dX q1) q2.2 (by rw[ev];exact wm cg hg);simpa using this
     |_=>simp at h2
    |vw n lo hi=>
     obtain⟨ob,hg,h2⟩:=Rd.bind_some h2;have hg:=dA hg;cases ob with
     |row e' ex xs=>obtain⟨te,q1,h2⟩:=Rd.bind_some h2;obtain⟨q2,h2⟩:=cS h2;obtain rfl:=aJ h2;simp only[aL]at q2;have:=aU q2.1;subst this;exact main n ex xs lo hi te hg (dX q1) q2.2 ev
     |_=>simp at h2
    |_=>simp at h2
   |_=>simp at h
  ·simp at h
 ·simp at h
end
end Go.FG

namespace Go.FG
def km(D:aA (aF×Obj)):aA (aF×eU):=D.map λd=>(c9 d.1, .o d.2)
def uR(D:aA (aF×Obj))(m:aF):Prop:=∃x,(m,x)∈D
theorem ZX:∀(D:aA (aF×Obj)) (σ:St),(∀m,(wr σ (km D) (c9 m)=σ (c9 m)/\¬uR D m)\/∃x,(m,x)∈D/\wr σ (km D) (c9 m)= .o x)/\∀m,slot (wr σ (km D)) m=slot σ m:=by
 intro D;induction D with
 |nil=>intro σ;exact⟨λm=> .inl ⟨rfl,λ⟨x,hx⟩=>by cases hx⟩,λm=>rfl⟩
 |cons d D ih=>
  intro σ;obtain⟨n,x⟩:=d;obtain⟨h1,h2⟩:=ih (pP σ (c9 n) (.o x));refine⟨λm=> ?_,λm=> ?_⟩
  ·show(wr (pP σ (c9 n) (.o x)) (km D) (c9 m)=_/\_)\/∃y,_/\wr (pP σ (c9 n) (.o x)) (km D) (c9 m)=_;rcases h1 m with ⟨q1,q2⟩|⟨y,q1,q2⟩
   ·rw[qb]at q1;by_cases hm:m=n
    ·subst hm;exact .inr ⟨x,by simp,by rw[q1,bz rfl]⟩
    ·refine .inl ⟨by rw[q1,bH hm],λ⟨y,hy⟩=> ?_⟩;rcases cC.1 hy with hy|hy
     ·cases hy;exact hm rfl
     ·exact q2 ⟨y,hy⟩
   ·exact .inr ⟨y,c8 _ q1,q2⟩
  ·show slot (wr (pP σ (c9 n) (.o x)) (km D)) m=_;rw[h2,jr]
section
variable {P:c6} {E:fS} {σ:St} {a:Act} {w:bL} {c:e_} {o:fD} {nm:aF} {e:s5}
theorem Iz(cg:Ok E σ w c)(dL:fF E σ a w c){o:fD}(hd:∀d,o.dst=ah d->d<a.tmps.size){D:aA (aF×Obj)}{s:SV}{v:bk}{w':bL}{c':e_}
  (hA:jF σ c c')
  (mY:∀n x,(n,x)∈D->pS E w' c' n x)
  (pW:∀n x b,(n,x)∈D->fM c' n x b->(j_ (uR D) σ c b\/w.heap.size<=b)/\¬c'.K b)
  (S3:∀n x n' x' b,(n,x)∈D->(n',x')∈D->fM c' n x b->fM c' n' x' b->n=n')
  (Jc:∀n xs,(n,Obj.box xs)∈D->∀a∈xs,∀m∈bS a,σ (c9 m)≠ .j8\/uR D m)
  (hK:∀b,c.K b->c'.K b) (Wq:∀b,c'.K b->c.K b\/j_ (uR D) σ c b\/w.heap.size<=b) (G4:∀b,c'.K b->b<w'.heap.size)
  (hW:∀b,b<w.heap.size->¬j_ (uR D) σ c b->w'.heap[b]? =w.heap[b]?) (gi:w.heap.size<=w'.heap.size) (Pw:w'.os=w.os) (XX:w'.tape=w.tape) (XR:w'.output=w.output)
  (yH:jk E w' c' s v) (A1:∀n∈cQ s,σ (c9 n)≠ .j8\/uR D n):
  Ok E (wr σ (km D++dw o s)) w' c'/\fF E (wr σ (km D++dw o s)) (a.put o.dst v) w' c'/\oC σ c w (wr σ (km D++dw o s)) c' w':=by
 rw[Qj];obtain⟨d1,d2⟩:=ZX D σ;let σ1:=wr σ (km D);obtain⟨s1,s2,s3⟩:=sb σ1 o s;have key:∀m,(wr σ1 (dw o s) (c9 m)=σ (c9 m)/\¬uR D m)\/∃x,(m,x)∈D/\wr σ1 (dw o s) (c9 m)= .o x:=λm=>by rw[s3];exact d1 m
 have iA:∀m,(σ (c9 m)≠ .j8\/uR D m)->wr σ1 (dw o s) (c9 m)≠ .j8:=by
  intro m hm;rcases key m with ⟨h1,h2⟩|⟨x,_,h2⟩
  ·rw[h1];exact hm.resolve_right h2
  ·rw[h2];simp
 have get:∀m x,uR D m->wr σ1 (dw o s) (c9 m)= .o x->(m,x)∈D:=by
  intro m x hm hx;rcases key m with ⟨_,h2⟩|⟨y,h1,h2⟩
  ·exact cK hm h2
  ·rw[h2]at hx;cases hx;exact h1
 have hh:=cg.change (σ':=wr σ1 (dw o s)) (w':=w') (c':=c') (uR D) (λm hm=>(key m).elim (λh=>h.1) (λ⟨x,h1,_⟩=>cK ⟨x,h1⟩ hm)) (λm hm=>iA m (.inl hm)) hA hW gi hK Wq G4
  (λm x hm ho=>mY m x (get m x hm ho)) (λm x b hm ho hf=>pW m x b (get m x hm ho) hf) (λm x m' x' b hm xH ho vu hf vp=>S3 m x m' x' b (get m x hm ho) (get m' x' xH vu) hf vp)
  (λm xs hm ho y hy n kK=>iA n (Jc m xs (get m _ hm ho) y hy n kK)) Pw XX XR
 refine⟨hh.1, ?_,hh.2⟩
 refine dL.change cg hh.2 hA (λm hm=>iA m (.inl hm)) o v (λn kK=>by rw[s1 n kK];exact d2 n) (λd ho=>⟨hd d ho, ?_, ?_⟩)
 ·rw[s2 d ho];exact yH
 ·rw[s2 d ho];intro n kK;exact iA n (A1 n kK)
theorem KX(cg:Ok E σ w c)(dL:fF E σ a w c){o:fD}(hd:∀d,o.dst=ah d->d<a.tmps.size){D:aA (aF×Obj)}{s:SV}{v:bk}{w':bL}{c':e_}
  (hA:jF σ c c')
  (mY:∀n x,(n,x)∈D->pS E w' c' n x)
  (pW:∀n x b,(n,x)∈D->fM c' n x b->(j_ (uR D) σ c b\/w.heap.size<=b)/\¬c'.K b)
  (S3:∀n x n' x' b,(n,x)∈D->(n',x')∈D->fM c' n x b->fM c' n' x' b->n=n')
  (Jc:∀n xs,(n,Obj.box xs)∈D->∀a∈xs,∀m∈bS a,σ (c9 m)≠ .j8\/uR D m)
  (hK:∀b,c.K b->c'.K b) (Wq:∀b,c'.K b->c.K b\/j_ (uR D) σ c b\/w.heap.size<=b) (G4:∀b,c'.K b->b<w'.heap.size)
  (hW:∀b,b<w.heap.size->¬j_ (uR D) σ c b->w'.heap[b]? =w.heap[b]?) (gi:w.heap.size<=w'.heap.size) (Pw:w'.os=w.os) (XX:w'.tape=w.tape) (XR:w'.output=w.output)
  (yH:jk E w' c' s v) (A1:∀n∈cQ s,σ (c9 n)≠ .j8\/uR D n)
  (hr:(execOp a.eval o).run P w= .ok (.value v) w'):gY P E σ a w c o (km D++dw o s):=by intro K Q hQ;obtain⟨h1,h2,h3⟩:=Iz cg dL hd hA mY pW S3 Jc hK Wq G4 hW gi Pw XX XR yH A1;exact yA hr (hQ v w' c' h1 h2 h3 hA.w)
def BI(σ:St)(c:e_)(m:az aF)(u:bk):CV->Prop
 | .l e ys=>(m=aj/\ys=[]/\u= .slice aj 0 0)\/∃nm,m=ah nm/\u=lT (c.P nm)/\σ (c9 nm)= .o (.row e ai ys)
 |x=>Sc u x
def EP(L:aA aF):aA (aF×Obj):=L.map λn=>(n, .dead)
theorem Cc(L:aA aF):ox L=km (EP L):=by unfold ox km EP;rw[mn];rfl
theorem Xq{k:Ck}{x:AV}{cv:CV}{ws:aA (aF×eU)}(h:(IH ai k x).val σ=ah (cv,ws)):
  cv.kd=k/\∃m:az aF,ws=ox m.toList/\(∀nm,m=ah nm->∃ob,σ (c9 nm)= .o ob)/\∀u,eM E w c x u->BI σ c m u cv:=by
 have pl:plain [k]=ai->cv.kd=k/\∃m:az aF,ws=ox m.toList/\(∀nm,m=ah nm->∃ob,σ (c9 nm)= .o ob)/\∀u,eM E w c x u->BI σ c m u cv:=by
  intro hp;have kd1:cv.kd=k/\ws=[]:=by
   cases k<;>cases x<;>simp[IH,plain]at h hp<;>first
    |(obtain⟨rfl,rfl⟩:=h;exact⟨rfl,rfl⟩)
    |(split at h<;>simp at h;rename_i hk;subst hk;obtain⟨rfl,rfl⟩:=h;exact⟨rfl,rfl⟩)
  refine⟨kd1.1,aj,kd1.2,λnm h=>(by cases h),λu hu=> ?_⟩
  obtain⟨_,h2,h3,_⟩:=zt hp h hu;cases cv<;>first|exact h2|simp[uD]at h3
 cases k with
 |i=>exact pl rfl
 |b=>exact pl rfl
 |s=>exact pl rfl
 |o=>cases x<;>simp[IH]at h
 |l e=>
  cases x with
  |nl=>obtain⟨rfl,rfl⟩:=bW (aJ h);exact⟨rfl,aj,rfl,λnm h=>(by cases h),λu hu=> .inl ⟨rfl,rfl,hu⟩⟩
  |sh e' xs=>simp[IH]at h
  |own n=>
   obtain⟨ob,hg,h⟩:=Rd.bind_some h;have hg:=dA hg;cases ob with
   |row e' uA xs=>obtain⟨h1,h⟩:=cS h;obtain⟨rfl,rfl⟩:=bW (aJ h);simp only[aL]at h1;have:=aU h1.1;subst this;obtain rfl:=h1.2;exact⟨rfl,ah n,rfl,λnm h=>(by cases h;exact⟨_,hg⟩),λu hu=> .inr ⟨n,rfl,hu,hg⟩⟩
   |fU=>simp at h
   |_=>simp at h
  |_=>simp[IH]at h
theorem Sx:∀{ks:aA Ck} {xs:aA AV} {cs:aA CV} {ws:aA (aF×eU)} (h:(zu ai ks xs).val σ=ah (cs,ws)),cs.map CV.kd=ks/\xs.length=ks.length/\∃(L:aA aF) (M:aF->az aF),ws=ox L/\
  (∀nm∈L,∃ob,σ (c9 nm)= .o ob)/\(∀j nm,M j=ah nm->nm∈L)/\(L.Nodup->∀i j nm,M i=ah nm->M j=ah nm->i=j)/\
  ∀(vals:dv bk),f_ E w c vals xs->∀(q:aF) (x:CV),cs[q]? =ah x->∃u:bk,vals[q]? =ah u/\BI σ c (M q) u x:=by
 intro ks;induction ks with
 |nil=>
  intro xs cs ws h;cases xs with
  |nil=>obtain⟨rfl,rfl⟩:=bW (aJ h);exact⟨rfl,rfl,[],λ_=>aj,rfl,λnm h=>(by cases h),λj nm h=>(by cases h),λ_ i j nm h=>(by cases h),λ_ _ q x hq=>by simp at hq⟩
  |cons=>simp[zu]at h
 |cons k ks ih=>
  intro xs cs ws h;cases xs with
  |nil=>simp[zu]at h
  |cons x xs=>
   obtain⟨⟨cv,w1⟩,h1,h⟩:=Rd.bind_some h;obtain⟨⟨cr,w2⟩,h2,h⟩:=Rd.bind_some h;obtain⟨rfl,rfl⟩:=bW (aJ h);obtain⟨e1,m,rfl,e2,e3⟩:=Xq (E:=E) (w:=w) (c:=c) h1;obtain⟨i1,i2,L,M,rfl,i4,i5,i6,i7⟩:=ih h2;refine⟨by simp[e1,i1],by simp[i2],m.toList++L,λj=>match j with|0=>m|j+1=>M j,by simp[ox], ?_, ?_, ?_, ?_⟩
   ·intro nm hnm;rcases ba.1 hnm with h|h
    ·exact e2 nm (by simpa using h)
    ·exact i4 nm h
   ·intro j nm hj;cases j with
    |zero=>exact bM _ (by simpa using hj)
    |succ j=>exact bN _ (i5 j nm hj)
   ·intro Je i j nm hi hj;obtain⟨n1,n2,n3⟩:=eQ.1 Je;cases i with
    |zero=>
     cases j with
     |zero=>rfl
     |succ j=>exact cK rfl (n3 nm (by simpa using hi) nm (i5 j nm hj))
    |succ i=>
     cases j with
     |zero=>exact cK rfl (n3 nm (by simpa using hj) nm (i5 i nm hi))
     |succ j=>rw[i6 n2 i j nm hi hj]
   ·intro vals hv q y hq;cases q with
    |zero=>cases hq;obtain⟨u,hu,ha⟩:=hv.2 0 x rfl;exact⟨u,hu,e3 u ha⟩
    |succ q=>
     have Ny:f_ E w c (vals.extract 1 vals.size) xs:=by
      refine⟨by simp;have:=hv.1;simp at this;omega,λj b hj=> ?_⟩
      obtain⟨u,hu,hb⟩:=hv.2 (j+1) b hj;refine⟨u, ?_,hb⟩
      have:=(dV.1 hu).1;rw[ed,bz (by omega),ja];exact hu
     obtain⟨u,r1,r2⟩:=i7 _ Ny q y hq;refine⟨u, ?_,r2⟩
     rw[ed]at r1;split at r1
     ·rw[ja];exact r1
     ·cases r1
theorem KL{k:Ck}{x:AV}{cv:CV}{ws:aA (aF×eU)}(cg:Ok E σ w c)(h:(IH ak k x).val σ=ah (cv,ws)):cv.kd=k/\ws=[]/\∀u,eM E w c x u->da E w c.K u cv:=by
 have pl:plain [k]=ai->cv.kd=k/\ws=[]/\∀u,eM E w c x u->da E w c.K u cv:=by
  intro hp;have kd1:cv.kd=k/\ws=[]:=by
   cases k<;>cases x<;>simp[IH,plain]at h hp<;>first
    |(obtain⟨rfl,rfl⟩:=h;exact⟨rfl,rfl⟩)
    |(split at h<;>simp at h;rename_i hk;subst hk;obtain⟨rfl,rfl⟩:=h;exact⟨rfl,rfl⟩)
  refine⟨kd1.1,kd1.2,λu hu=> ?_⟩
  obtain⟨_,h2,h3,_⟩:=zt hp h hu;exact kR h3 h2
 cases k with
 |i=>exact pl rfl
 |b=>exact pl rfl
 |s=>exact pl rfl
 |o=>cases x<;>simp[IH]at h
 |l e=>
  cases x with
  |nl=>obtain⟨rfl,rfl⟩:=bW (aJ h);exact⟨rfl,rfl,λu hu=>by rw[show u=_ from hu];exact .nl _ _ _⟩
  |sh e' xs=>obtain⟨h1,h⟩:=cS h;obtain⟨rfl,rfl⟩:=bW (aJ h);simp only[aL]at h1;have:=aU h1.1;subst this;exact⟨rfl,rfl,λu hu=>hu⟩
  |own n=>
   obtain⟨ob,hg,h⟩:=Rd.bind_some h;have hg:=dA hg;cases ob with
   |row e' uA xs=>obtain⟨h1,h⟩:=cS h;simp at h
   |fU e' xs=>
    obtain⟨h1,h⟩:=cS h;obtain⟨rfl,rfl⟩:=bW (aJ h);simp only[aL]at h1;have:=aU h1.1;subst this;refine⟨rfl,rfl,λu hu=> ?_⟩
    have hu:u=lT (c.P n):=hu;rw[hu];exact(cg.obj n _ hg).1
   |_=>simp at h
  |_=>simp[IH]at h
theorem II(cg:Ok E σ w c):∀{ks:aA Ck} {xs:aA AV} {cs:aA CV} {ws:aA (aF×eU)} (h:(zu ak ks xs).val σ=ah (cs,ws)),cs.map CV.kd=ks/\xs.length=ks.length/\ws=[]/\
  ∀(vals:dv bk),f_ E w c vals xs->∀(q:aF) (x:CV),cs[q]? =ah x->∃u:bk,vals[q]? =ah u/\da E w c.K u x:=by
 intro ks;induction ks with
 |nil=>
  intro xs cs ws h;cases xs with
  |nil=>obtain⟨rfl,rfl⟩:=bW (aJ h);exact⟨rfl,rfl,rfl,λ_ _ q x hq=>by simp at hq⟩
  |cons=>simp[zu]at h
 |cons k ks ih=>
  intro xs cs ws h;cases xs with
  |nil=>simp[zu]at h
  |cons x xs=>
   obtain⟨⟨cv,w1⟩,h1,h⟩:=Rd.bind_some h;obtain⟨⟨cr,w2⟩,h2,h⟩:=Rd.bind_some h;obtain⟨rfl,rfl⟩:=bW (aJ h);obtain⟨e1,e2,e3⟩:=KL cg h1;obtain⟨i1,i2,i3,i7⟩:=ih h2;refine⟨by simp[e1,i1],by simp[i2],by rw[e2,i3];rfl,λvals hv q y hq=> ?_⟩
   cases q with
   |zero=>cases hq;obtain⟨u,hu,ha⟩:=hv.2 0 x rfl;exact⟨u,hu,e3 u ha⟩
   |succ q=>
    have Ny:f_ E w c (vals.extract 1 vals.size) xs:=by
     refine⟨by simp;have:=hv.1;simp at this;omega,λj b hj=> ?_⟩
     obtain⟨u,hu,hb⟩:=hv.2 (j+1) b hj;refine⟨u, ?_,hb⟩
     have:=(dV.1 hu).1;rw[ed,bz (by omega),ja];exact hu
    obtain⟨u,r1,r2⟩:=i7 _ Ny q y hq;refine⟨u, ?_,r2⟩
    rw[ed]at r1;split at r1
    ·rw[ja];exact r1
    ·cases r1
end
end Go.FG

namespace Go.FG
section
variable {P:c6} {E:fS} {σ:St} {a:Act} {w:bL} {c:e_} {o:fD} {nm:aF} {e:s5}
structure Inv (E:fS) (σ:St) (w:bL) (c:e_) (ex:aX) (ks:aA Ck) (vals:dv bk) (z:aQ) (N:aF->aF->az aF) (S:aA aF):Prop where
 size:vals.size=z.length*ks.length
 sh:∀y∈z,y.map CV.kd=ks
 inS:∀i j nm,N i j=ah nm->nm∈S
 inj:∀i j i' j' nm,N i j=ah nm->N i' j'=ah nm->i=i'/\j=j'
 cell:∀(i:aF) (y:aA CV) (j:aF) (x:CV),z[i]? =ah y->y[j]? =ah x->∃u:bk,vals[i*ks.length+j]? =ah u/\(if ex=ai then BI σ c (N i j) u x else da E w c.K u x)
theorem Inv.set{ex:aX}{ks:aA Ck}{vals:dv bk}{z:aQ}{N:aF->aF->az aF}{S:aA aF}(h:Inv E σ w c ex ks vals z N S){i0:aF}(hi:i0<z.length){cs:aA CV}{vs:dv bk}(hk:cs.map CV.kd=ks)(S6:vs.size=ks.length)
  {M:aF->az aF} {L:aA aF} (hM:∀j nm,M j=ah nm->nm∈L) (hMi:∀i j nm,M i=ah nm->M j=ah nm->i=j) (hd:∀nm∈L,nm∉S)
  (hc:∀(q:aF) (x:CV),cs[q]? =ah x->∃u:bk,vs[q]? =ah u/\(if ex=ai then BI σ c (M q) u x else da E w c.K u x)):
  Inv E σ w c ex ks (eh vals (i0*ks.length) vs.toList) (z.set i0 cs) (λi j=>if i=i0 then M j else N i j) (S++L):=by
 have h1:(i0+1)*ks.length<=z.length*ks.length:=b8 _ hi;rw[dq]at h1;have hb:i0*ks.length+vs.toList.length<=vals.size:=by rw[h.size,show vs.toList.length=ks.length from S6];omega
 refine⟨by rw[fj hb,cE];exact h.size, ?_, ?_, ?_, ?_⟩
 ·intro y hy;rcases jK hy with hy|hy
  ·exact h.sh y hy
  ·rw[hy];exact hk
 ·intro i j nm hn;replace hn:(if i=i0 then M j else N i j)=ah nm:=hn;split at hn
  ·exact bN _ (hM j nm hn)
  ·exact bM _ (h.inS i j nm hn)
 ·intro i j i' j' nm hn kK;replace hn:(if i=i0 then M j else N i j)=ah nm:=hn;replace kK:(if i'=i0 then M j' else N i' j')=ah nm:=kK;split at hn
  ·rename_i e1;split at kK
   ·rename_i e2;exact⟨e1.trans e2.symm,hMi j j' nm hn kK⟩
   ·exact cK (h.inS i' j' nm kK) (hd nm (hM j nm hn))
  ·split at kK
   ·exact cK (h.inS i j nm hn) (hd nm (hM j' nm kK))
   ·exact h.inj i j i' j' nm hn kK
 ·intro i y j x hy hx;rw[Qo]at hy;rw[gq hb,show vs.toList.length=ks.length from S6];by_cases Ja:i0=i
  ·subst Ja;rw[bz rfl,bz hi]at hy;cases hy;have hj:j<ks.length:=by rw[<-hk,bU];exact(aT.1 hx).1
   obtain⟨u,hu,hr⟩:=hc j x hx;refine⟨u, ?_,by simpa using hr⟩
   rw[bz (by omega),cZ,<-hu];congr 1;omega
  ·rw[bH Ja]at hy;obtain⟨u,hu,hr⟩:=h.cell i y j x hy hx;have hj:j<ks.length:=by rw[<-h.sh y (aR hy),bU];exact(aT.1 hx).1
   refine⟨u, ?_,by rw[show(if i=i0 then M j else N i j)=N i j from bH (λe=>Ja e.symm)];exact hr⟩
   rw[bH ?_];exact hu;rcases Qr Ja with jB|hgt
   ·have:(i0+1)*ks.length<=i*ks.length:=b8 _ jB;rw[dq]at this;omega
   ·have:(i+1)*ks.length<=i0*ks.length:=b8 _ hgt;rw[dq]at this;omega
theorem O4(cg:Ok E σ w c)(dL:fF E σ a w c){ex:aX}{ks:aA Ck}(lj:0<ks.length):∀(ps:aA (aF×dz)) (z z':aQ) (ws:aA (aF×eU)),(KK ex ks ps z).val σ=ah (z',ws)->
  z'.length=z.length/\∃L,ws=ox L/\(∀nm∈L,∃ob,σ (c9 nm)= .o ob)/\∀vals N S,(S++L).Nodup->Inv E σ w c ex ks vals z N S->
   ∃jc N',pH (λi=>ah (i*ks.length,ks.length)) vals (ps.map λ(i,x)=>(i,a.eval x))=ah jc/\Inv E σ w c ex ks jc z' N' (S++L):=by
 intro ps;induction ps with
 |nil=>intro z z' ws h;obtain⟨rfl,rfl⟩:=bW (aJ h);exact⟨rfl,[],rfl,λnm h=>(by cases h),λvals N S _ hi=>⟨vals,N,rfl,by rw[dp];exact hi⟩⟩
 |cons p r ih=>
  obtain⟨i0,x⟩:=p;intro z z' ws h;obtain⟨v,h1,h⟩:=Rd.bind_some h;obtain⟨Py,hkv⟩:=mw dL h1;cases v with
  |v g ys=>
   obtain⟨h2,h⟩:=cS h;have h2:=cO h2;obtain⟨⟨cs,w1⟩,h3,h⟩:=Rd.bind_some h;obtain⟨⟨z1,w2⟩,h4,h⟩:=Rd.bind_some h;obtain⟨rfl,rfl⟩:=bW (aJ h);have oc:=qn.cells Py
   have IH:cs.map CV.kd=ks/\ys.length=ks.length/\∃(L:aA aF) (M:aF->az aF),w1=ox L/\(∀nm∈L,∃ob,σ (c9 nm)= .o ob)/\(∀j nm,M j=ah nm->nm∈L)/\(L.Nodup->∀i j nm,M i=ah nm->M j=ah nm->i=j)/\
     ∀(q:aF) (x:CV),cs[q]? =ah x->∃u:bk,(a.eval ‹dz›).cells[q]? =ah u/\(if ex=ai then BI σ c (M q) u x else da E w c.K u x):=by
    cases ex with
    |true=>obtain⟨q1,q2,L,M,q3,q4,q5,q6,q7⟩:=Sx (E:=E) (w:=w) (c:=c) h3;exact⟨q1,q2,L,M,q3,q4,q5,q6,λq x hq=>by simpa using q7 _ oc q x hq⟩
    |false=>obtain⟨q1,q2,q3,q4⟩:=II cg h3;exact⟨q1,q2,[],λ_=>aj,q3,λnm h=>(by cases h),λj nm h=>(by cases h),λ_ i j nm h=>(by cases h),λq x hq=>by simpa using q4 _ oc q x hq⟩
   obtain⟨q1,q2,L,M,rfl,q4,q5,q6,q7⟩:=IH;obtain⟨i1,L2,rfl,i3,i4⟩:=ih _ _ _ h4;rw[cE]at i1;refine⟨i1,L++L2,by simp[ox],λnm hn=>(ba.1 hn).elim (q4 nm) (i3 nm),λvals N S Je hinv=> ?_⟩
   have ajc:((S++L)++L2).Nodup:=by rw[cB];exact Je
   obtain⟨n1,n2,n3⟩:=eQ.1 ajc;obtain⟨m1,m2,m3⟩:=eQ.1 n1;have S6:(a.eval x).cells.size=ks.length:=by rw[oc.1,q2]
   have ai6:=hinv.set (i0:=i0) (by omega) q1 S6 q5 (q6 m2) (λnm hn hs=>m3 nm hs nm hn rfl) q7;obtain⟨jc,N',f1,f2⟩:=i4 _ _ _ ajc ai6;refine⟨jc,N', ?_,by rw[<-cB];exact f2⟩
   have h1:(i0+1)*ks.length<=z.length*ks.length:=b8 _ h2;rw[dq,<-hinv.size]at h1;simp only[fE,pH];rw[bH (by simp[S6];omega)];have:=EX (off:=i0*ks.length) (vs:=(a.eval x).cells) (cells:=vals) (by omega);rw[<-f1];exact lN (λq=>pH (λi=>ah (i*ks.length,ks.length)) q _) this
  |kj=>simp at h
  |un=>simp at h
theorem C3{t el n:aF}{inf:Kl}{z:bk}{ks:aA Ck}{ps:dv (aF×bk)}{cells:dv bk}(hu:P.underlying t=ah (.slice el))(hi:P.info? el=ah inf)(gi:inf.size=ks.length)(hz:inf.zero=ah z)(hzc:z.cells=(ks.map iN).toArray)
  (h24:n*ks.length<=16777216) (hf:pH (λi=>ah (i*ks.length,ks.length)) (madeCells (ks.map iN).toArray (n*ks.length)) ps.toList=ah cells):
  (z7 t n ps).run P w= .ok (.slice (ah (ad w.heap.size 0)) n n) (w.alloc (.cells cells el)):=by
 have aru:¬(n*ks.length>2^24):=by omega
 by_cases h0:n*ks.length=0
 ·have e0:(Array.range (n*ks.length)).map (λi=>(#[]:dv bk)[i%(#[]:dv bk).size]!)=madeCells (ks.map iN).toArray (n*ks.length):=by rw[h0];simp[madeCells,Array.range_zero']
  simp only[z7,cm,run_underlying hu,bG,sizeOf,typeInfo,program,nv,hi,gi,cU,h0,if_true,ni];rw[h0]at e0 hf;rw[e0,hf];simp only[newRow,newObj,cm,nv,bG,cU];rfl
 ·have e0:(Array.range (n*ks.length)).map (λi=>z.cells[i%z.cells.size]!)=madeCells (ks.map iN).toArray (n*ks.length):=by rw[hzc];rfl
  simp only[z7,cm,run_underlying hu,bG,sizeOf,typeInfo,program,nv,hi,gi,aru,if_false,cU,h0,zeroValue,hz,ni];rw[e0,hf];simp only[newRow,newObj,cm,nv,bG,cU];rfl
theorem qP:∀{l:aA aF},tM l=ai->l.Nodup
 |[],_=> .nil
 |n::r,h=>by
  simp only[tM,aL,dt]at h;refine la.2 ⟨λhm=> ?_,qP h.2⟩;have:mK n r=true:=by
   have:=h.1;clear h;induction r with
   |nil=>cases hm
   |cons m r ih=>
    rcases cC.1 hm with rfl|hm
    ·simp[mK]
    ·simp only[mK,iJ]at this⊢;rw[ih hm this.2];simp
  rw[this]at h;cases h.1
theorem rU{α β:Type}{f:α->β}:∀{l:aA α},(l.map f).Nodup->l.Nodup
 |[],_=> .nil
 |x::l,h=>by
  rw[fE,la]at h;exact la.2 ⟨λhm=>h.1 (cX.2 ⟨x,hm,rfl⟩),rU h.2⟩
theorem XB{ks:aA Ck}(hf:flat E ks=ai){e:aF}(hm:Ck.l e∈ks):∃t,E.ty e=ah t/\plain t.ks=true:=by
 have h:=bu.1 hf _ hm;replace h:(match E.ty e with|some ti=>plain ti.ks|none=>ak)=true:=h;cases ht:E.ty e with
 |none=>rw[ht]at h;cases h
 |some t=>rw[ht]at h;exact⟨t,rfl,h⟩
theorem P7(cg:Ok E σ w c){n e:aF}{ex:aX}{xs:aQ}(hg:σ (c9 n)= .o (.row e ex xs)){t:TI}(ht:E.ty e=ah t)(hp:plain t.ks=ai):
  (c.P n).sz=t.ks.length/\(∀y∈xs,y.map CV.kd=t.ks)/\jj w (c.P n) xs (λ_ _ u x=>Sc u x):=by
 obtain⟨⟨t2,q1,q2,q3⟩,q4,_⟩:=cg.obj n _ hg;obtain rfl:t=t2:=aJ (ht.symm.trans q1);refine⟨q2,q3,q4.frame (λ_=>rfl) (λi j y x u hi hj hr=> ?_)⟩
 have hl:=iv hp (q3 y (aR hi)) hj;split at hr
 ·exact uO hr hl
 ·exact pA hr hl
theorem Sm(cg:Ok E σ w c){ks:aA Ck}(hf:flat E ks=ai){m:az aF}{G:aF->aF->Pl}{i j:aF}(hG:G i j=match m with|some n=>c.P n|none=>Ls E ks i j){u:bk}{x:CV}(hx:ks[j]? =ah x.kd){w':bL}(hw:∀b,b<w.heap.size->(∃n,m=ah n/\b=(c.P n).blk)->w'.heap[b]? =w.heap[b]?)(h:BI σ c m u x):XC E w' G i j u x:=by
 cases x with
 |l e ys=>
  obtain⟨t,ht,hp⟩:=XB hf (aR hx);rcases h with ⟨rfl,rfl,rfl⟩|⟨n,rfl,rfl,hg⟩
  ·refine⟨by rw[hG];rfl,t,ht,hp, ?_,λy hy=>(by cases hy),⟨by rw[hG];rfl,λ_=>⟨rfl,by rw[hG];rfl⟩,λhn=>by rw[hG]at hn;cases hn⟩⟩
   rw[hG];show(match ks[j]? with|some (.l e)=>(match E.ty e with|some t=>t.ks.length|none=>0)|_=>0)=_;rw[hx];simp only[CV.kd,ht]
  ·obtain⟨q1,q2,q3⟩:=P7 cg hg ht hp;refine⟨by rw[hG],t,ht,hp,by rw[hG];exact q1,q2, ?_⟩
   rw[hG];refine q3.frame (λhn=>hw _ (wI.lt cg ⟨n,_,hg, .inl ⟨hn,rfl⟩⟩) ⟨n,rfl,rfl⟩) (λ_ _ _ _ _ _ _ h=>h)
 |i=>exact h
 |b=>exact h
 |s=>exact h
theorem D9(hE:eH P E)(cg:Ok E σ w c)(dL:fF E σ a w c)(hd:∀d,o.dst=ah d->d<a.tmps.size){t n:aF}{ps:dv (aF×dz)}(ho:o.op= .buildSlice t n ps)(h:(mg E nm o).val σ=ah e)(hc:e.cond=ai):gY P E σ a w c o e.ws:=by
 simp only[mg,ho]at h;obtain⟨ti,h1,h⟩:=Rd.bind_some h;have h1:=dX h1;split at h
 ·rename_i el uC A1;obtain⟨te,h2,h⟩:=Rd.bind_some h;have h2:=dX h2;obtain⟨zA,h⟩:=cS h;obtain⟨ex0,_,h⟩:=Rd.bind_some h;obtain⟨⟨xs,ws⟩,h3,h⟩:=Rd.bind_some h;obtain⟨u,h4,h⟩:=Rd.bind_some h;obtain⟨hf,jB⟩:=kJ h4;obtain rfl:=aJ h;simp only[aL]at hc;obtain⟨h24,Je⟩:=hc;have h24:=cO h24;have hu:=pk hE h1 uC A1;obtain⟨inf,hi,gi,_,lj,hz⟩:=hE.info el te h2;obtain⟨z,J8,D6,_⟩:=hz zA;have Po:(ex0&&flat E te.ks)=ai->flat E te.ks=true:=λh=>by simp only[aL]at h;exact h.2
  generalize (ex0&&flat E te.ks)=ex at h3 Po⊢;obtain⟨hlen,L,rfl,hL,S1⟩:=O4 (c:=c) cg dL lj ps.toList _ _ _ h3;have Je:L.Nodup:=by have:=qP Je;unfold ox at this;rw[mn]at this;exact rU this
  obtain⟨vals,N,aiY,hinv⟩:=S1 (madeCells (te.ks.map iN).toArray (n*te.ks.length)) (λ_ _=>aj) [] (by simpa using Je)
   ⟨by rw[size_madeCells];simp[aP],yC zA n,λi j nm h=>(by cases h),λi j i' j' nm h=>(by cases h),λi y j x hy hx=>by
    obtain⟨gh,k,hk,rfl⟩:=uP hy hx;refine⟨iN k,lU gh hk, ?_⟩
    have hko:=bu.1 zA k (aR hk);split
    ·cases k with
     |l e=>exact .inl ⟨rfl,rfl,rfl⟩
     |o=>cases hko
     |s=>exact⟨rfl,bI _⟩
     |_=>exact⟨rfl,trivial⟩
    ·exact Me hko⟩
  rw[gD]at hinv;have hr:=C3 (P:=P) (w:=w) (n:=n) (ps:=ps.map λ(i,x)=>(i,a.eval x)) hu hi gi J8 D6 h24 (by rw[Aw];exact aiY);have Le:xs.length=n:=by rw[hlen];simp[aP]
  let g:aF->aF->Pl:=λi j=>match N i j with|some m=>c.P m|none=>Ls E te.ks i j
  let c':e_:=⟨λm=>if m=nm then⟨ak,w.heap.size,0,n,n,te.ks.length⟩else c.P m,λm=>if m=nm then g else c.G m,c.K⟩
  have hP:c'.P nm=⟨ak,w.heap.size,0,n,n,te.ks.length⟩:=bz rfl;have hG:c'.G nm=g:=bz rfl;have hA:jF σ c c':=λm hm=>by
   have:m≠nm:=by rintro rfl;rcases hm with h|h;exact h hf;omega
   exact⟨bH this,bH this⟩
  have gN:∀i j,(g i j).nil=ak->∃m ob,N i j=ah m/\g i j=c.P m/\m∈L/\σ (c9 m)= .o ob:=by
   intro i j hn;cases hm:N i j with
   |none=>simp only[g,hm]at hn;cases hn
   |some m=>obtain⟨ob,mY⟩:=hL m (hinv.inS i j m hm);exact⟨m,ob,rfl,by simp only[g,hm],hinv.inS i j m hm,mY⟩
  have inn:∀i j,ex=ai->gk xs i j->(g i j).nil=ak->∃m el2 ys,N i j=ah m/\g i j=c.P m/\m∈L/\σ (c9 m)= .o (.row el2 ai ys)/\(c.P m).nil=false:=by
   rintro i j hex ⟨y,x,hy,hx,hl⟩ hn;obtain⟨m,ob,q1,q2,q3,q4⟩:=gN i j hn;obtain⟨u,_,hr⟩:=hinv.cell i y j x hy hx;rw[bz hex,q1]at hr;cases x with
   |l e2 ys=>
    rcases hr with ⟨h,_⟩|⟨m',h,_,hg⟩
    ·cases h
    ·cases h;exact⟨m,e2,ys,q1,q2,q3,hg,by rw[<-q2];exact hn⟩
   |i=>simp[uD]at hl
   |b=>simp[uD]at hl
   |s=>simp[uD]at hl
  have S7:∀b,b<w.heap.size->(w.alloc (.cells vals el)).heap[b]? =w.heap[b]? :=λb hb=>heap_alloc_old w _ b hb;have mem:∀m x,(m,x)∈EP L++[(nm,Obj.row el ex xs)]->(m∈L/\x= .dead)\/(m=nm/\x= .row el ex xs):=by
   intro m x hm;rcases ba.1 hm with hm|hm
   ·unfold EP at hm;obtain⟨q,hq,h⟩:=cX.1 hm;cases h;exact .inl ⟨hq,rfl⟩
   ·rw[aZ]at hm;cases hm;exact .inr ⟨rfl,rfl⟩
  have hws:ox L++(c9 nm,eU.o (.row el ex xs))::dw o (.v ak [.own nm])=km (EP L++[(nm,Obj.row el ex xs)])++dw o (.v ak [.own nm]):=by rw[Cc];unfold km;simp
  show gY P E σ a w c o (ox L++(c9 nm,eU.o (.row el ex xs))::dw o (.v ak [.own nm]));rw[hws];refine KX cg dL hd (c':=c') (w':=w.alloc (.cells vals el)) (v:= .slice (ah (ad w.heap.size 0)) n n) hA ?_ ?_ ?_ ?_ (λ_ h=>h) (λ_ h=> .inl h) (λb hb=>jw (cg.lt b hb) (by simp)) (λb hb _=>S7 b hb) (by simp) rfl rfl rfl ?_ ?_ ?_
  ·intro m x hm;rcases mem m x hm with ⟨_,rfl⟩|⟨rfl,rfl⟩
   ·trivial
   ·refine⟨⟨te,h2,by rw[hP],hinv.sh⟩, ?_,λhex=> ?_⟩
    ·rw[hP,hG];refine⟨Le.symm,λhn=>(by cases hn),λ_=>⟨vals,nZ.alloc w _ el,cG _, ?_, ?_,λi y j x hy hx=> ?_⟩⟩
     ·show n<=2^63-1;have:n*1<=n*te.ks.length:=Nat.mul_le_mul_left _ lj;omega
     ·rw[hinv.size,Le];simp
     ·obtain⟨u,sA,D1⟩:=hinv.cell i y j x hy hx;refine⟨u,by simpa using sA, ?_⟩
      split at D1
      ·rename_i hex;rw[bz hex];refine Sm cg (Po hex) rfl ?_ (λb hb _=>S7 b hb) D1;rw[<-hinv.sh y (aR hy),bK,hx];rfl
      ·rename_i hex;rw[bH hex];exact D1.frame (λb hb=>S7 b (cg.lt b hb)) (λ_ h=>h)
    ·rw[hP,hG];refine⟨λi j hh hn _=> ?_,λi j i' j' hh A0 hn kK hbk=> ?_⟩
     ·obtain⟨m',e2,ys,_,q2,_,q4,q5⟩:=inn i j hex hh hn;have:(c.P m').blk<w.heap.size:=wI.lt cg ⟨m',_,q4, .inl ⟨q5,rfl⟩⟩;rw[q2];show(c.P m').blk≠w.heap.size;omega
     ·obtain⟨m1,e1,y1,p1,p2,_,p4,p5⟩:=inn i j hex hh hn;obtain⟨m2,e2,y2,r1,r2,_,r4,r5⟩:=inn i' j' hex A0 kK;rw[p2,r2]at hbk;have:=cg.sep m1 _ m2 _ _ p4 r4 (.inl ⟨p5,rfl⟩) (.inl ⟨r5,hbk⟩);subst this;exact hinv.inj i j i' j' m1 p1 r1
  ·intro m x b hm pW;rcases mem m x hm with ⟨_,rfl⟩|⟨rfl,rfl⟩
   ·exact pW.elim
   ·rcases pW with ⟨_,rfl⟩|⟨hex,i,j,hh,hn,rfl⟩
    ·rw[hP];exact⟨.inr (cG _),λhk=>by have:=cg.lt _ hk;exact cK this (bm _)⟩
    ·rw[hG]at hn⊢;obtain⟨m',e2,ys,_,q2,q3,q4,q5⟩:=inn i j hex hh hn;rw[q2];refine⟨.inl ⟨m',_,⟨.dead,bM _ (cX.2 ⟨m',q3,rfl⟩)⟩,q4, .inl ⟨q5,rfl⟩⟩,cg.kk m' _ _ q4 (.inl ⟨q5,rfl⟩)⟩
  ·intro m x m' x' b hm xH pW SS;rcases mem m x hm with ⟨_,rfl⟩|⟨rfl,rfl⟩
   ·exact pW.elim
   ·rcases mem m' x' xH with ⟨_,rfl⟩|⟨rfl,rfl⟩
    ·exact SS.elim
    ·rfl
  ·intro m zs hm;rcases mem m _ hm with ⟨_,h⟩|⟨_,h⟩<;>cases h
  ·show _=lT (c'.P nm);rw[hP];rfl
  ·intro m hm;have:m=nm:=by simpa [cQ,bS]using hm
   subst this;exact .inr ⟨_,bN _ (aZ.2 rfl)⟩
  ·unfold execOp;rw[ho];exact i9 hr
 ·simp at h
end
end Go.FG

namespace Go.FG
section
variable {P:c6}
def ma(elem:TypeId)(size:aF)(base:az Addr)(sLen sCap:aF)(s x:bk)(aP:aX)(n:aF)(Il:Sem (dv bk)):Sem bk:=
 if sLen+n<=sCap then do
  let new<-Il
  if let ah a:=base then storeCells (a.add (sLen*size)) new.toList
  pure (.slice base (sLen+n) sCap)
 else do
  if((sLen+n:aF):aw)>ao.max/\(aP\/(<-typeInfo elem).bytes=0)then runtimePanic (.error "growslice: len out of range")
  if HN (sLen+n) sCap*(<-typeInfo elem).bytes>2^48 then(if aP then runtimePanic (.error "growslice: len out of range")else do
   if !(<-Builtin.mayShare size sLen n base x)then mark .noRoom
   unsupported (.resourceLimit "append: a slice or a string whose bytes no memory bears"))
  let Lq<-choose (.appendCap (sLen+n) sCap elem)
  askRoom (Lq*(<-typeInfo elem).bytes)
  let old<-fC size sLen s
  let new<-Il
  let rest:=fO (<-zeroValue elem).cells (Lq-(sLen+n))
  pure (.slice (ah (<-newRow elem (old++new++rest))) (sLen+n) Lq)
theorem zO{w:bL}{t u ty el:aF}{inf:Kl}(hu:P.underlying t=ah (.slice el))(hi:P.info? el=ah inf)(hd:(∃e',P.underlying u=ah (.slice e'))\/P.underlying u=ah .string)
  {base:az Addr} {sLen sCap m:aF} {x:bk} (hl:(pG x).run P w= .ok m w):
  (ix #[t,u] ty #[.slice base sLen sCap,x]).run P w=(ma el inf.size base sLen sCap (.slice base sLen sCap) x ak m (fC inf.size m x)).run P w:=by
 have hs:(sizeOf el).run P w= .ok inf.size w:=by simp[sizeOf,typeInfo,hi]
 rcases hd with ⟨e',hd⟩|hd<;>
  (simp only[ix,ij,sF,dP,cm,run_underlying hu,run_underlying hd,bG,hs,cU,hl,dy,if_false,bR,if_true,false_or,ni]
   unfold ma
   simp only[ni,cm,dy,if_false,false_or,cU]
   try rfl)
theorem C1{w:bL}{t u ty el:aF}{inf:Kl}(hu:P.underlying t=ah (.slice el))(hi:P.info? el=ah inf){k:nu}(hd:P.underlying u=ah (.int k))
  {base:az Addr} {sLen sCap m:aF} {x:bk} {k':nu} (hx:x= .int k' (m:aw)) (h1:m<=9223372036854775807) (h2:m*inf.bytes<=140737488355328):
  (ix #[t,u] ty #[.slice base sLen sCap,x]).run P w=(ma el inf.size base sLen sCap (.slice base sLen sCap) x ai m (if m*inf.size=0 then pure #[]else do pure (fO (<-zeroValue el).cells m))).run P w:=by
 have hs:(sizeOf el).run P w= .ok inf.size w:=by simp[sizeOf,typeInfo,hi]
 have ht:∀W,(typeInfo el).run P W= .ok inf W:=λW=>by simp[typeInfo,hi]
 have hw:ao.wrap (m:aw)=m:=by rw[qg];omega
 have c1:¬((m:aw)<0):=by omega
 have c2:¬((m:aw)*(inf.bytes:aw)>2^48):=by
  have a2:((m*inf.bytes:aF):aw)<=140737488355328:=by generalize m*inf.bytes=q at h2;omega
  rw[W2]at a2;generalize (m:aw)*(inf.bytes:aw)=q at a2;have:(2:aw)^48=281474976710656:=by decide
  omega
 subst hx;have ha:(asInt (.int k' (m:aw))).run P w= .ok (m:aw) w:=by simp[asInt,asIntOf]
 simp only[ix,ij,sF,dP,cm,run_underlying hu,run_underlying hd,bG,hs,ht,ha,hw,c1,c2,cU,if_false,a_,dy,if_true,ni,dH];unfold ma;simp only[ni,cm,if_true,true_or,and_true,cU,ht,bG];try rfl
theorem Ee{w w':bL}{el size sLen sCap m:aF}{a:Addr}{s x:bk}{zs:aX}{app:Sem (dv bk)}{news:aA bk}(ha:app.run P w= .ok news.toArray w)(h:sLen+m<=sCap)(Lb:(storeCells (a.add (sLen*size)) news).run P w= .ok () w'):
  (ma el size (ah a) sLen sCap s x zs m app).run P w= .ok (.slice (ah a) (sLen+m) sCap) w':=by unfold ma;rw[bz h];simp only[cm,ha,bG,Lb,cU]
theorem Ed{w:bL}{el size sCap:aF}{s x:bk}{zs:aX}{app:Sem (dv bk)}{news:aA bk}(ha:app.run P w= .ok news.toArray w):
  (ma el size aj 0 sCap s x zs 0 app).run P w= .ok (.slice aj 0 sCap) w:=by unfold ma;rw[bz (bI _)];simp only[cm,ha,bG,cU]
theorem Ec{w:bL}{el size sLen sCap m:aF}{base:az Addr}{s x:bk}{zs:aX}{app:Sem (dv bk)}{pB news:aA bk}{inf:Kl}{z:bk}(hi:P.info? el=ah inf)(hz:inf.zero=ah z)
  (h:¬sLen+m<=sCap) (h63:sLen+m<=9223372036854775807) (h48:(sLen+m)*inf.bytes<=140737488355328)
  (ho:(fC size sLen s).run P w.drew= .ok pB.toArray w.drew) (ha:app.run P w.drew= .ok news.toArray w.drew):
  (ma el size base sLen sCap s x zs m app).run P w= .ok (.slice (ah (ad w.heap.size 0)) (sLen+m) (grownCap w (sLen+m) sCap el))
   (w.drew.alloc (.cells (pB.toArray++news.toArray++fO z.cells (grownCap w (sLen+m) sCap el-(sLen+m))) el)):=by
 have ht:∀W,(typeInfo el).run P W= .ok inf W:=λW=>by simp[typeInfo,hi]
 have hzv:∀W,(zeroValue el).run P W= .ok z W:=λW=>by simp[zeroValue,typeInfo,hi,hz]
 have c1:¬(((sLen+m:aF):aw)>ao.max/\(zs=ai\/inf.bytes=0)):=by
  have:ao.max=9223372036854775807:=by decide
  rintro ⟨h,_⟩;omega
 have c2:¬(HN (sLen+m) sCap*inf.bytes>2^48):=by
  have:=growslice_fits (need:=sLen+m) (old:=sCap) (bytes:=inf.bytes) (by omega) h48;have e:2^48=281474976710656:=by decide
  omega
 have Ws:(choose (.appendCap (sLen+m) sCap el)).run P w= .ok (grownCap w (sLen+m) sCap el) w.drew:=by rw[run_choose_drew];rfl
 have arB:∀n W,(askRoom n).run P W= .ok () W:=λn W=>by simp only[askRoom];split<;>simp
 have zy:∀cs,(newRow el cs).run P w.drew= .ok (ad w.heap.size 0) (w.drew.alloc (.cells cs el)):=λcs=>by simp only[newRow,newObj,cm,nv,bG,cU];rfl
 unfold ma;rw[bH h];simp only[cm,ht,bG,c1,c2,if_false,Ws,arB,ho,ha,hzv,zy,cU,ni]
structure App (P:c6) (w:bL) (u:aF) (x:bk) (z:dv bk) (sz m:aF) (news:aA bk):Prop where
 h:(((∃e',P.underlying u=ah (.slice e'))\/P.underlying u=ah .string)/\(pG x).run P w= .ok m w/\(fC sz m x).run P w= .ok news.toArray w/\(fC sz m x).run P w.drew= .ok news.toArray w.drew)\/
  ((∃k,P.underlying u=ah (.int k))/\(∃k',x= .int k' (m:aw))/\news=(fO z m).toList)
 len:news.length=m*sz
 one:∀v∈news,v.oneCell'=ai
structure aeb (w w':bL) (p p':Pl) (m:aF) (news:aA bk):Prop where
 n:p'.n=p.n+m
 sz:p'.sz=p.sz
 nil:p'.nil=ai->p'.cap=0/\p.n=0/\m=0
 mem:p'.nil=ak->∃jc,nZ w' p'.blk jc/\p'.n<=p'.cap/\p'.cap<=maxLen/\p'.off+p'.cap*p'.sz<=jc.size/\
  (∀k u,k<p.n*p.sz->w.cell? (ad p.blk (p.off+k))=ah u->jc[p'.off+k]? =ah u)/\(∀k,k<m*p.sz->jc[p'.off+p.n*p.sz+k]? =news[k]?)
 blk:p'.nil=ak->(p.nil=ak/\p'.blk=p.blk)\/p'.blk=w.heap.size
 old:∀b,b<w.heap.size->(p'.nil=ak->b≠p'.blk)->w'.heap[b]? =w.heap[b]?
 size:w.heap.size<=w'.heap.size
 os:w'.os=w.os
 tape:w'.tape=w.tape
 output:w'.output=w.output
theorem tV{w:bL}{t u ty el:aF}{inf:Kl}{z:bk}{p:Pl}{x:bk}{m:aF}{news:aA bk}(hu:P.underlying t=ah (.slice el))(hi:P.info? el=ah inf)(hz:inf.zero=ah z)(QE:z.cells.size=p.sz)(gi:inf.size=p.sz)
  (jC:p.nil=ai->p.n=0) (afi:p.nil=ak->∃vals,nZ w p.blk vals/\p.n<=p.cap/\p.cap<=maxLen/\p.off+p.cap*p.sz<=vals.size)
  (hx:App P w u x z.cells p.sz m news) (h1:(p.n+m)*inf.bytes<=140737488355328) (h2:p.n+m<=9223372036854775807):
  ∃p' w',(ix #[t,u] ty #[lT p,x]).run P w= .ok (lT p') w'/\aeb w w' p p' m news:=by
 have hmb:m*inf.bytes<=140737488355328:=di (b8 _ (by omega)) h1;have hzv:∀W,(zeroValue el).run P W= .ok z W:=λW=>by simp[zeroValue,typeInfo,hi,hz]
 have hml:p.n+m<=maxLen:=by simp only[maxLen];omega
 have tail:∀(base:az Addr) (sLen sCap:aF),∃(zs:aX) (app:Sem (dv bk)),(ix #[t,u] ty #[.slice base sLen sCap,x]).run P w=(ma el p.sz base sLen sCap (.slice base sLen sCap) x zs m app).run P w/\
   app.run P w= .ok news.toArray w/\app.run P w.drew= .ok news.toArray w.drew:=by
  intro base sLen sCap
  rcases hx.h with ⟨hd,hl,hf,hf2⟩|⟨⟨k,hk⟩,⟨k',hxv⟩,hn⟩
  ·have:=zO (P:=P) (w:=w) (ty:=ty) hu hi hd (base:=base) (sLen:=sLen) (sCap:=sCap) hl;rw[gi]at this;exact⟨_,_,this,hf,hf2⟩
  ·have:=C1 (P:=P) (w:=w) (ty:=ty) hu hi hk (base:=base) (sLen:=sLen) (sCap:=sCap) hxv (by omega) hmb;rw[gi]at this;refine⟨_,_,this, ?_, ?_⟩
   ·rw[hn];split
    ·rename_i h0;have:fO z.cells m= #[]:=Av (by rw[size_zeroCells,QE,h0]);rw[this];rfl
    ·simp only[cm,hzv,bG,cU,uf]
   ·rw[hn];split
    ·rename_i h0;have:fO z.cells m= #[]:=Av (by rw[size_zeroCells,QE,h0]);rw[this];rfl
    ·simp only[cm,hzv,bG,cU,uf]
 have grow:∀(base:az Addr) (sCap:aF) (pB:aA bk) (zs:aX) (app:Sem (dv bk)),¬p.n+m<=sCap->pB.length=p.n*p.sz->(∀k u,k<p.n*p.sz->w.cell? (ad p.blk (p.off+k))=ah u->pB[k]? =ah u)->
   (fC p.sz p.n (.slice base p.n sCap)).run P w.drew= .ok pB.toArray w.drew->app.run P w.drew= .ok news.toArray w.drew->
   ∃p' w',(ma el p.sz base p.n sCap (.slice base p.n sCap) x zs m app).run P w= .ok (lT p') w'/\aeb w w' p p' m news:=by
  intro base sCap pB zs app hc E5 Py hf ha
  have hr:=Ec (P:=P) (w:=w) (size:=p.sz) (zs:=zs) (x:=x) (base:=base) hi hz hc h2 h1 hf ha
  refine⟨⟨ak,w.heap.size,0,grownCap w (p.n+m) sCap el,p.n+m,p.sz⟩,_,hr,⟨rfl,rfl,λh=>(by cases h),λ_=> ?_,λ_=> .inr rfl,λb hb _=>heap_alloc_old w.drew _ b hb,by simp,rfl,rfl,rfl⟩⟩
  have hge:=grownCap_ge w (p.n+m) sCap el
  refine⟨_,⟨_,_,heap_alloc_new w.drew _,λq _=>by simp⟩,hge,grownCap_le_maxLen w _ _ _ hml, ?_,λk u hk sA=> ?_,λk hk=> ?_⟩
  ·simp only[Array.size_append,Wi,size_zeroCells,QE,E5,hx.len,<-dq,bV];exact b8 _ (by omega)
  ·rw[bV,OE,Ei (by simpa [E5]using hk),ij];exact Py k u hk sA
  ·rw[bV,OE,Array.getElem?_append_right (by simp[E5]),Ei (by simp[E5,hx.len];omega),ij];congr 1;simp[E5]
 cases hq:p.nil with
 |true=>
  have hn:=jC hq;rw[nK hq];obtain⟨zs,app,hr,ha,ha2⟩:=tail aj 0 0;rw[hr];by_cases hm:m=0
  ·subst hm;refine⟨⟨ai,0,0,0,0,p.sz⟩,w,Ed ha,⟨by simp[hn],rfl,λ_=>⟨rfl,hn,rfl⟩,λh=>(by cases h),λh=>(by cases h),λ_ _ _=>rfl,cG _,rfl,rfl,rfl⟩⟩
  ·have:=grow aj 0 [] zs app (by omega) (by simp[hn]) (λk u hk=>by rw[hn]at hk;simp at hk) (by rw[hn];exact run_firstCells_none _ _ _ _ _) ha2;rwa[hn]at this
 |false=>
  rw[fc hq];obtain⟨vals,hb,SX,XK,mI⟩:=afi hq;obtain⟨zs,app,hr,ha,ha2⟩:=tail (ah (ad p.blk p.off)) p.n p.cap;rw[hr];have hle:p.n*p.sz<=p.cap*p.sz:=b8 _ SX;by_cases hc:p.n+m<=p.cap
  ·have vq:p.off+p.n*p.sz+news.length<=vals.size:=by have:(p.n+m)*p.sz<=p.cap*p.sz:=b8 _ hc;rw[dq]at this;rw[hx.len];omega
   have Lb:=nM (P:=P) w hb vq hx.one;have hrr:=Ee (P:=P) (s:= .slice (ah (ad p.blk p.off)) p.n p.cap) (x:=x) (el:=el) (size:=p.sz) (zs:=zs) ha hc (by rw[Addr.n9];exact Lb);refine⟨⟨ak,p.blk,p.off,p.cap,p.n+m,p.sz⟩,_,hrr,⟨rfl,rfl,λh=>(by cases h),λ_=>⟨_,hb.setRow (fj vq),hc,XK,by rw[fj vq];exact mI,λk u hk sA=> ?_,λk hk=> ?_⟩,λ_=> .inl ⟨hq,rfl⟩,λb _ Qz=>setRow_other w _ b _ (Qz rfl),by simp[lH],rfl,rfl,rfl⟩⟩
   ·show(eh vals (p.off+p.n*p.sz) news)[p.off+k]? =ah u;rw[gq vq,bH (by omega),<-hb.cell];exact sA
   ·show(eh vals (p.off+p.n*p.sz) news)[p.off+p.n*p.sz+k]? =news[k]?;rw[gq vq,bz (by rw[hx.len];omega)];congr 1;omega
  ·have hcell:∀k,k<p.n*p.sz->w.cell? (ad p.blk (p.off+k))=vals[p.off+k]? :=λk _=>hb.cell _;let pB:=(vals.toList.drop p.off).take (p.n*p.sz);have E5:pB.length=p.n*p.sz:=by simp only[pB,eD,iE,dS];omega
   have Py:∀k u,k<p.n*p.sz->w.cell? (ad p.blk (p.off+k))=ah u->pB[k]? =ah u:=λk u hk sA=>by rw[hcell k hk]at sA;simp only[pB,ea,bz hk,dR,cZ,sA]
   refine grow (ah (ad p.blk p.off)) p.cap pB zs app hc E5 Py ?_ ha2;refine run_firstCells_some w.drew p.sz p.n _ _ _ pB E5 (λj v hj=> ?_);have j7:j<p.n*p.sz:=by rw[<-E5];exact(aT.1 hj).1
   simp only[pB,ea,bz j7,dR,cZ]at hj;rw[Addr.n9];have:=hcell j j7;rw[hj]at this;simpa using this
end
end Go.FG

