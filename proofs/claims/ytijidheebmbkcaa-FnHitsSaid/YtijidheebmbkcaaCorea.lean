/- An evaluator for the part of the language that this program uses, proved sound over the model: states told as values and lists; what an evaluation tells, the call does. No condition. -/
import Derived.Calls
import Derived.Orders
import Derived.Below
import Derived.Laws.AppendOwn
import Derived.Laws.Slices
import Derived.Laws.StructEq
import Derived.Laws.Tables
import Derived.Laws.MakeOwn
import Derived.Laws.IdiomStrings
import Derived.Laws.BytesArg
import Derived.Laws.NewFold
import Derived.SizedLaws
import Derived.Carry
import Derived.ProofKit
import Derived.KernelRfl
import Derived.Laws.Strings
set_option linter.unusedVariables false
set_option linter.unusedSimpArgs false
set_option maxRecDepth 100000
open Array renaming getElem?_eq_some_iff->c_,getD_eq_getD_getElem?->dD,getElem?_setIfInBounds->ly,toArray_toList->pR,getElem?_toList->bY,ext'->oO,length_toList->c8,toList_map->uK,getElem?_map->Gw,getElem?_extract->dn,range->Rq,eq_empty_of_size_eq_zero->uJ,append_assoc->Gv,getElem?_append_left->yz
open BitVec renaming ofInt->bG
open Bool renaming false->ah,true->ae,false_eq_true->cJ,and_eq_true->az,not_eq_true'->dt,and_assoc->mY,or_eq_false_iff->je,not_false->bX,not_true->bz
open ByteArray renaming size_extract->O8,size_append->fE,empty->C5,size->fW
open Go renaming IntKind->ki,Value->aR,Operand->cL,Oper->dU,World->bf,Program->b9,TypeInfo->Da
open Go.Act renaming put->L8,eval->Bn
open Go.Addr renaming add->Ry
open Go.Builtin renaming len_->rz,max2->yD,min2->yE,clear_->lP,zeroCells->eb,nextslicecap->Ba,firstCells->dS,lenOf->mz,append_->fA
open Go.Instr renaming loadAt->td,sureAddr->qn,storeAt->ME,alloc->Rz,box->Vh,fieldAt->MC,indexAt->MD,sliceBound->nJ,sliceBounds->j8,sliceAt->ni,slice->RA,fill->mA,buildSlice->um
open Go.IntKind renaming i64->aj,wrap_i64->mZ
open Go.Op renaming bytesLess->bZ,stringOp->YV
open Go.Oper renaming wp->Gz
open Go.Region renaming binds->jT
open Go.Result renaming andThen_ok->ba
open Go.Sem renaming run_bind->bJ,run_pure->bV,run->kj,run_ite->kc
open Go.Value renaming slice->RB
open Go.World renaming cell?->Vj,frozen?->Pf,cell?_of_block->qo,setRow->i9
open Int renaming toNat_natCast->gY,not_lt->YW,natCast_mul->MG
open List renaming mem_cons_of_mem->b_,mem_cons->bP,mem_cons_self->cR,mem_flatMap->bg,mem_of_getElem?->aD,append_nil->da,length_nil->gX,getElem?_toArray->fm,append_assoc->bR,getElem?_append_left->cS,getElem?_take->dj,getElem?_append_right->cm,getElem?_drop->c7,length_eq_one_iff->e8,getElem?_cons_succ->cZ,getD->gW,getElem?_map->bc,getElem_mem->bk,mem_map->b7,all_eq_true->aZ,range->cy,getElem?_range->qO,getElem?_eq_none->iL,getElem?_eq_some_iff->aG,mem_of_mem_drop->iM,mem_of_mem_take->iN,getElem?_of_mem->bB,map_toArray->x_,map_cons->dW,map_nil->v7,ext_getElem?->Md,eq_nil_of_length_eq_zero->eH,mem_append->aQ,length_cons->cE,map_map->jC,map_congr_left->HV,size_toArray->Mf,length_map->bC,getD_eq_getElem?_getD->cT,getElem?_set->HU,all_cons->oP,length_take->eA,length_drop->im,length_singleton->bM,mem_append_left->bw,mem_append_right->bm,nodup_append->dr,length_set->cF,mem_or_eq_of_mem_set->gG,nodup_cons->iz,nil_append->fU,mem_singleton->aP,getElem?_cons_zero->oQ
open List.cons renaming injEq->Pz
open Nat renaming beq->a_,blt->nk,ble->dZ,le_of_lt->Us,le_refl->cD,le_trans->c5,lt_of_lt_of_le->gF,eq_of_beq_eq_true->aJ,add_zero->tn,add_assoc->ju,le_of_ble_eq_true->bN,add_mul->cB,zero_le->bT,mul_le_mul_right->bD,eq_zero_or_pos->xR,div_lt_iff_lt_mul->sV,mod_lt->xS,div_add_mod->CX,mul_comm->yH,zero_add->bu,lt_or_gt_of_ne->HX,add_comm->gf,sub_self->Mg,sub_zero->tp,lt_irrefl->ca
open Option renaming some->ab,none->af,map_some->gm,getD_some->tq
open Option.some renaming inj->aq,injEq->gJ
open Prod.mk renaming inj->bn,injEq->hZ
open UInt8 renaming ofNat->ay
open _root_ renaming Nat->au,Int->ax,Bool->aL,ByteArray->ai,List->ak,Option->ar,Array->cG,if_pos->br,if_neg->bF,absurd->bS,cond_true->aw,cond_false->aC,decide_eq_true_eq->a9,of_decide_eq_true->bU,congrArg->o6
namespace Go.FG
inductive Ck where
 |i (k:ki)|b|s|l (e:au)|o
inductive CV where
 |i (k:ki) (n:ax)|b (x:aL)|s (x:ai)|l (e:au) (xs:ak (ak CV))
abbrev aY:=ak (ak CV)
def CV.kd:CV->Ck
 | .i k _=> .i k| .b _=> .b| .s _=> .s| .l e _=> .l e
def cw:CV->ax| .i _ n=>n|_=>0
def cvB:CV->aL| .b x=>x|_=>ah
def bW:CV->ai| .s x=>x|_=>⟨#[]⟩
def ia:CV->aY| .l _ xs=>xs|_=>[]
def ao(xs:aY)(i j:au):CV:=(xs.getD i []).getD j (.b ah)
inductive AV where
 |i (k:ki) (n:ax)|b (x:aL)|s (x:ai)
 |sh (e:au) (xs:aY)
 |nl
 |own (nm:au)
 |vw (nm lo hi:au)
 |bp (nm j:au)
 |rp (nm i j:au)
 |sp (e:au) (xs:aY) (i j:au)
 |inn (nm i j:au)
 |ip (nm i j i2 j2:au)
 |fn (f:au) (fV:ak (ak CV))
 |fp (xs:ak CV) (j:au)
inductive SV where
 |v (agg:aL) (xs:ak AV)|gM (xs:ak (aL×ak AV))|un
inductive Obj where
 |box (xs:ak AV)|lk (xs:ak CV)|row (e:au) (ex:aL) (xs:aY)|ej (e:au) (xs:aY)|dead
inductive dF where
 |v (x:SV)|o (x:Obj)|ie
def tO(n:au):aL:=a_ (n%1000) 999&&nk n 900000000
abbrev St:=au->dF
def mK(s:St)(k:au)(c:dF):St:=λn=>bif a_ n k then c else s n
def wr(s:St):ak (au×dF)->St
 |[]=>s
 |(k,c)::r=>wr (mK s k c) r
def nh(n:au):au:=2*n
def cf(n:au):au:=2*n+1
inductive Rd (α:Type) where
 |ret (a:α)|fail|get (k:au) (f:dF->Rd α)
def Rd.bind{α β:Type}:Rd α->(α->Rd β)->Rd β
 | .ret a,f=>f a
 | .fail,_=> .fail
 | .get k g,f=> .get k λc=>(g c).bind f
def Rd.run{α:Type}:Rd α->St->ak au->ar (α×ak au)
 | .ret a,_,l=>ab (a,l)
 | .fail,_,_=>af
 | .get k f,s,l=>(f (s k)).run s (k::l)
structure TI where
 agg:aL
 ks:ak Ck
 bytes:au
inductive AA where
 |i (k:ki) (n:ax)|b (x:aL)|s (x:ai)|sh (e:au) (xs:aY)|nl
 |ow (e:au) (ex:aL) (xs:aY)|kp (xs:aY)|fn (f:au) (fV:ak (ak CV))
inductive dO where
 |v (agg:aL) (xs:ak AA)|pt (xs:ak AA)|fb (xs:ak CV)
structure dp where
 rs:ak dO
 outs:ak (ak AA)
structure Tab where
 ty:au->ar TI
 fo:au->au->ar (au×au)
 eqs:ak au
 JP:au->au->aL:=λ_ _=>ah
inductive Om where
 |nat|own (e:au)|sh (e:au)
structure eh extends Tab where
 call:au->ak dO->ar (aL×dp)
 om:au->au->Om
 mode:au->au->aL
 keep:au->ak au
 tk:au->aL
instance:Coe eh Tab:=⟨eh.toTab⟩
structure o7 where
 cond:aL
 ws:ak (au×dF)
def jO(n:au):ak au->aL
 |[]=>ah|m::r=>a_ n m||jO n r
def Y3:aR->SV
 | .int k n=> .v ah [.i k n]| .bool x=> .v ah [.b x]| .string x=>bif dZ x.size 4611686018427387904 then .v ah [.s x]else .un
 | .slice af 0 0=> .v ah [.nl]
 |_=> .un
def AM(x:cL):Rd SV:=
 match x with
 | .tmp t=> .get (nh t) λ| .v x=> .ret x|_=> .ret .un
 | .const v=> .ret (Y3 v)
 | .func f=> .ret (.v ah [.fn f []])
 | .global _=> .fail
def gV(nm:au):Rd Obj:= .get (cf nm) λ| .o x=> .ret x|_=> .fail
def fresh(nm:au):Rd Unit:= .get (cf nm) λ| .ie=>bif dZ nm 899999999 then .ret ()else .fail|_=> .fail
def oq(x:cL):Rd AV:=(AM x).bind λ| .v ah [a]=> .ret a|_=> .fail
def xp(x:cL):Rd (ki×ax):=(oq x).bind λ| .i k n=> .ret (k,n)|_=> .fail
def dw(o:dU)(v:SV):ak (au×dF):=match o.dst with|some d=>[(nh d, .v v)]|none=>[]
def val(o:dU)(v:SV):Rd o7:= .ret ⟨ae,dw o v⟩
def uh(o:dU)(v:AV):Rd o7:=val o (.v ah [v])
def EA(o:dU)(c:aL)(v:AV):Rd o7:= .ret ⟨c,dw o (.v ah [v])⟩
def oZ(E:eh)(t:au):Rd TI:=match E.ty t with|some i=> .ret i|none=> .fail
def mT(E:eh)(t:au):Rd Ck:=(oZ E t).bind λti=>match ti.agg,ti.ks with|false,[k]=> .ret k|_,_=> .fail
def xO:Ck->AV
 | .i k=> .i k 0| .b=> .b ah| .s=> .s ⟨#[]⟩| .l _=> .nl| .o=> .nl
def uj:Ck->CV
 | .i k=> .i k 0| .b=> .b ah| .s=> .s ⟨#[]⟩| .l e=> .l e []| .o=> .b ah
def D9(ks:ak Ck):aL:=ks.all λ| .o=>ah|_=>ae
def dec:Ck->CV->AV
 | .i k,x=> .i k (cw x)| .b,x=> .b (cvB x)| .s,x=> .s (bW x)| .l e,x=> .sh e (ia x)| .o,_=> .nl
def qv(xs:aY)(i:au):au->ak Ck->ak AV
 |_,[]=>[]
 |j,k::ks=>dec k (ao xs i j)::qv xs i (j+1) ks
def uU(nm:au)(xs:aY)(i:au):au->ak Ck->ak AV
 |_,[]=>[]
 |j, .l _::ks=> .inn nm i j::uU nm xs i (j+1) ks
 |j,k::ks=>dec k (ao xs i j)::uU nm xs i (j+1) ks
def Ov:CV->AV
 | .i k n=> .i k n| .b x=> .b x| .s x=> .s x| .l e xs=> .sh e xs
def gb{α:Type}(xs:ak α)(j:au)(ys:ak α):ak α:=xs.take j++ys++xs.drop (j+ys.length)
def dP(xs:aY)(i j:au)(ys:ak CV):aY:=xs.set i (gb (xs.getD i []) j ys)
def akG(agg:aL)(xs:ak AV):SV:= .v agg xs
def dM(xs:aY)(lo hi:au):aY:=(xs.drop lo).take (hi-lo)
def plain(ks:ak Ck):aL:=ks.all λ| .i _=>ae| .b=>ae| .s=>ae|_=>ah
def VF:Ck->Ck->aL
 | .i a, .i b=>decide (a=b)| .b, .b=>ae| .s, .s=>ae| .l a, .l b=>a_ a b| .o, .o=>ae|_,_=>ah
def na:ak Ck->ak Ck->aL
 |[],[]=>ae|x::l,y::r=>VF x y&&na l r|_,_=>ah
def BL(ex:aL)(k:Ck)(a:AV):Rd (CV×ak (au×dF)):=
 match k,a with
 | .i k, .i k' n=>if k=k' then .ret (.i k n,[])else .fail
 | .b, .b x=> .ret (.b x,[])
 | .s, .s x=> .ret (.s x,[])
 | .l e, .nl=> .ret (.l e [],[])
 | .l e, .sh e' xs=>bif a_ e e'&& !ex then .ret (.l e xs,[])else .fail
 | .l e, .own nm=>(gV nm).bind λ
  | .row e' pY xs=>bif a_ e e'&&pY then(bif ex then .ret (.l e xs,[(cf nm, .o .dead)])else .fail)else .fail
  | .ej e' xs=>bif a_ e e'&& !ex then .ret (.l e xs,[])else .fail
  |_=> .fail
 |_,_=> .fail
def tK(ex:aL):ak Ck->ak AV->Rd (ak CV×ak (au×dF))
 |[],[]=> .ret ([],[])
 |k::ks,a::r=>(BL ex k a).bind λ(c,w)=>(tK ex ks r).bind λ(cs,ws)=> .ret (c::cs,w++ws)
 |_,_=> .fail
def VN:ak AV->aL
 |[]=>ae
 | .sh _ _::_=>ah
 |_::r=>VN r
end Go.FG

namespace Go.FG
def Sd(op:BinOp)(k:ki)(a b:ax):ar (aL×AV):=
 match op with
 | .add=>ab (ae, .i k (k.wrap (a+b)))
 | .sub=>ab (ae, .i k (k.wrap (a-b)))
 | .mul=>ab (ae, .i k (k.wrap (a*b)))
 | .quo=>ab (!(b==0), .i k (k.wrap (a.tdiv b)))
 | .rem=>ab (!(b==0), .i k (a.tmod b))
 | .and=>ab (ae, .i k (k.wrap (bG k.bits a&&&bG k.bits b).toNat))
 | .or=>ab (ae, .i k (k.wrap (bG k.bits a|||BitVec.ofInt k.bits b).toNat))
 | .xor=>ab (ae, .i k (k.wrap (bG k.bits a^^^bG k.bits b).toNat))
 | .eql=>ab (ae, .b (a==b))
 | .neq=>ab (ae, .b (a !=b))
 | .lss=>ab (ae, .b (decide (a<b)))
 | .leq=>ab (ae, .b (decide (a<=b)))
 | .gtr=>ab (ae, .b (decide (a>b)))
 | .geq=>ab (ae, .b (decide (a≥b)))
 |_=>af
def Sg(op:BinOp)(a b:ai):ar (aL×AV):=
 match op with
 | .add=>ab (decide (a.size+b.size<=4611686018427387904), .s (a++b))
 | .eql=>ab (ae, .b (a.toList==b.toList))
 | .neq=>ab (ae, .b (!(a.toList==b.toList)))
 | .lss=>ab (ae, .b (bZ a.toList b.toList))
 | .leq=>ab (ae, .b (bZ a.toList b.toList||a.toList==b.toList))
 | .gtr=>ab (ae, .b (!(bZ a.toList b.toList||a.toList==b.toList)))
 | .geq=>ab (ae, .b (!(bZ a.toList b.toList)))
 |_=>af
def Nh:ak AV->ak AV->ar aL
 |[],[]=>ab ae
 | .i k a::l, .i k' b::r=>if k=k' then(match Nh l r with|some t=>ab ((a==b)&&t)|none=>af)else af
 | .b a::l, .b b::r=>match Nh l r with|some t=>ab ((a==b)&&t)|none=>af
 | .s a::l, .s b::r=>match Nh l r with|some t=>ab ((a.toList==b.toList)&&t)|none=>af
 |_,_=>af
def Ay:AV->Ck
 | .i k _=> .i k| .b _=> .b| .s _=> .s|_=> .o
def Dt(op:BinOp)(k:Ck):AV->AV->ar (aL×AV)
 | .i k a, .i k' b=>if k=k' then Sd op k a b else af
 | .s a, .s b=>Sg op a b
 | .b a, .b b=>match op,k with| .eql, .b=>ab (ae, .b (a==b))| .neq, .b=>ab (ae, .b (!(a==b)))|_,_=>af
 |_,_=>af
def shV(op:BinOp):AV->AV->ar (aL×AV)
 | .i k a, .i _ b=>match op with
  | .shl=>ab (decide (0<=b), .i k (k.wrap (a*2^(min b.toNat k.bits))))
  | .shr=>ab (decide (0<=b), .i k (a.fdiv (2^(min b.toNat k.bits))))
  |_=>af
 |_,_=>af
def Ha:BinOp->aL| .shl=>ae| .shr=>ae|_=>ah
def isEq:BinOp->aL| .eql=>ae| .neq=>ae|_=>ah
def KT{α:Type}:ar α->Rd α|some a=> .ret a|none=> .fail
def Sf(E:eh)(t:au)(op:BinOp)(x y:SV):Rd (aL×AV):=
 match x,y with
 | .v ah [a], .v ah [b]=>bif Ha op then KT (shV op a b)else(mT E t).bind λk=>KT (Dt op k a b)
 | .v ae xs, .v ae ys=>(oZ E t).bind λti=>
   bif isEq op&&jO t E.eqs&&na (xs.map Ay) ti.ks&&na (ys.map Ay) ti.ks&&plain ti.ks then KT (match Nh xs ys with|some r=>ab (ae,AV.b (match op with| .eql=>r|_=> !r))|none=>af)else .fail
 |_,_=> .fail
def Fu:ak AV->ak (au×ak AV)->ak AV
 |z,[]=>z
 |z,(j,ys)::r=>Fu (gb z j ys) r
def AP(E:eh)(t:au):ak (au×cL)->Rd (ak (au×ak AV))
 |[]=> .ret []
 |(f,x)::r=>(AM x).bind λ
  | .v _ ys=>match E.fo t f with
   |some (o,n)=>bif a_ ys.length n then(AP E t r).bind λl=> .ret ((o,ys)::l)else .fail
   |none=> .fail
  |_=> .fail
def jM(E:eh)(a:AV):Rd (au×aY):=
 match a with
 | .sh e xs=> .ret (e,xs)
 | .own nm=>(gV nm).bind λ| .row e _ xs=> .ret (e,xs)| .ej e xs=> .ret (e,xs)|_=> .fail
 | .vw nm lo hi=>(gV nm).bind λ| .row e _ xs=> .ret (e,dM xs lo hi)| .ej e xs=> .ret (e,dM xs lo hi)|_=> .fail
 | .inn nm i j=>(gV nm).bind λ
  | .row e ae xs=>(oZ E e).bind λti=>match ti.ks[j]? with|some (.l e2)=> .ret (e2,ia (ao xs i j))|_=> .fail
  |_=> .fail
 |_=> .fail
def Tw(E:eh)(k:Ck)(a:AV):Rd ax:=
 match k,a with
 | .s, .s x=> .ret x.size
 | .l _, .nl=> .ret 0
 | .l _, .vw nm lo hi=>(gV nm).bind λ| .row _ _ _=> .ret ((hi-lo:au):ax)| .ej _ _=> .ret ((hi-lo:au):ax)|_=> .fail
 | .l _,a=>(jM E a).bind λ(_,xs)=> .ret xs.length
 |_,_=> .fail
def DB(ex:aL)(ks:ak Ck):ak (au×cL)->aY->Rd (aY×ak (au×dF))
 |[],z=> .ret (z,[])
 |(i,x)::r,z=>(AM x).bind λ
  | .v _ ys=>bif dZ (i+1) z.length then(tK ex ks ys).bind λ(cs,w)=>(DB ex ks r (z.set i cs)).bind λ(z,ws)=> .ret (z,w++ws)else .fail
  |_=> .fail
def Fo:ak (au×cL)->Rd aL
 |[]=> .ret ae
 |(_,x)::r=>(AM x).bind λ
  | .v _ ys=>(Fo r).bind λb=> .ret (VN ys&&b)
  |_=> .fail
def aM(ks:ak Ck)(n:au):aY:=List.replicate n (ks.map uj)
def bytesOf(xs:aY):ai:=⟨(xs.map λy=>ay (cw (y.getD 0 (.b ah))).toNat).toArray⟩
def nE(s:ai):aY:=s.data.toList.map λb=>[.i .u8 (b.toNat:ax)]
def Ua:ak Ck->aL|[.i .u8]=>ae|_=>ah
def flat(E:eh)(ks:ak Ck):aL:=ks.all λ
 | .l e=>match E.ty e with|some ti=>plain ti.ks|none=>ah
 |_=>ae
def cX(n:au)(bytes:au):aL:=decide (n*bytes<=140737488355328)&&decide (n<=9223372036854775807)
def pw(E:eh)(ti:TI)(p:AV):Rd (ak AV):=
 match p with
 | .bp nm j=>(gV nm).bind λ
  | .box xs=>bif dZ (j+ti.ks.length) xs.length then .ret ((xs.drop j).take ti.ks.length)else .fail
  | .lk xs=>bif dZ (j+ti.ks.length) xs.length then .ret (((xs.drop j).take ti.ks.length).map Ov)else .fail
  |_=> .fail
 | .fp xs j=>bif dZ (j+ti.ks.length) xs.length then .ret (((xs.drop j).take ti.ks.length).map Ov)else .fail
 | .sp e xs i j=>(oZ E e).bind λte=>bif na ((te.ks.drop j).take ti.ks.length) ti.ks then .ret (qv xs i j ti.ks)else .fail
 | .rp nm i j=>(gV nm).bind λ
  | .row e ex xs=>(oZ E e).bind λte=>bif na ((te.ks.drop j).take ti.ks.length) ti.ks then(bif ex&&tO nm then(bif plain ti.ks then .ret (qv xs i j ti.ks)else .fail)else .ret (bif ex then uU nm xs i j ti.ks else qv xs i j ti.ks))else .fail
  | .ej e xs=>(oZ E e).bind λte=>bif na ((te.ks.drop j).take ti.ks.length) ti.ks then .ret (qv xs i j ti.ks)else .fail
  |_=> .fail
 | .ip nm i j i2 j2=>(gV nm).bind λ
  | .row e ae xs=>(oZ E e).bind λte=>match te.ks[j]? with
   |some (.l e2)=>(oZ E e2).bind λt2=>bif na ((t2.ks.drop j2).take ti.ks.length) ti.ks then .ret (qv (ia (ao xs i j)) i2 j2 ti.ks)else .fail
   |_=> .fail
  |_=> .fail
 |_=> .fail
def A2(E:eh)(p:AV)(ys:ak AV):Rd (ak (au×dF)):=
 match p with
 | .bp nm j=>(gV nm).bind λ
  | .box xs=>bif dZ (j+ys.length) xs.length then .ret [(cf nm, .o (.box (gb xs j ys)))]else .fail
  |_=> .fail
 | .rp nm i j=>(gV nm).bind λ
  | .row e ex xs=>(oZ E e).bind λte=>bif plain ((te.ks.drop j).take ys.length)then(tK ah ((te.ks.drop j).take ys.length) ys).bind λ(cs,_)=> .ret [(cf nm, .o (.row e ex (dP xs i j cs)))]else .fail
  |_=> .fail
 | .ip nm i j i2 j2=>(gV nm).bind λ
  | .row e ae xs=>(oZ E e).bind λte=>match te.ks[j]? with
   |some (.l e2)=>(oZ E e2).bind λt2=>bif plain t2.ks then(tK ah ((t2.ks.drop j2).take ys.length) ys).bind λ(cs,_)=>
    .ret [(cf nm, .o (.row e ae (dP xs i j [.l e2 (dP (ia (ao xs i j)) i2 j2 cs)])))]else .fail
   |_=> .fail
  |_=> .fail
 |_=> .fail
def Cp:ak AV->aL
 |[]=>ae
 | .own _::_=>ah
 |_::r=>Cp r
def tX:au->ak AV->ar (au×au)
 |_,[]=>af
 |q, .own n::r=>bif Cp r then ab (q,n)else af
 |q,_::r=>tX (q+1) r
def ye(e2 n2:au)(zs:aY):ak Ck->ak AV->ar (ak CV)
 |[],[]=>ab []
 | .i k::ks, .i k' x::r=>if k=k' then(ye e2 n2 zs ks r).map (.i k x:: ·)else af
 | .b::ks, .b x::r=>(ye e2 n2 zs ks r).map (.b x:: ·)
 | .s::ks, .s x::r=>(ye e2 n2 zs ks r).map (.s x:: ·)
 | .l e::ks, .own n::r=>bif a_ e e2&&a_ n n2 then(ye e2 n2 zs ks r).map (.l e2 zs:: ·)else af
 |_,_=>af
def A1(E:eh)(n i j:au)(ys:ak AV):Rd (ak (au×dF)):=
 (gV n).bind λ
 | .row e ae xs=>(oZ E e).bind λte=>match tX 0 ys with
  |some (q,n2)=>bif a_ n n2 then .fail else(gV n2).bind λ
   | .row e2 ae zs=>(oZ E e2).bind λt2=>bif plain t2.ks&&dZ (j+ys.length) te.ks.length then(match ye e2 n2 zs ((te.ks.drop j).take ys.length) ys with
    |some cs=> .ret [(cf n, .o (.row e ae (dP xs i j cs))),(cf n2, .o .dead)]
    |none=> .fail)else .fail
   |_=> .fail
  |none=> .fail
 |_=> .fail
def LM(E:eh)(p:AV)(ys:ak AV):Rd (ak (au×dF)):=
 match p with
 | .rp n i j=>bif tO n then A1 E n i j ys else A2 E (.rp n i j) ys
 |p=>A2 E p ys
def JL(E:eh)(t:au)(f:au)(p:AV):Rd AV:=
 match E.fo t f with
 |none=> .fail
 |some (o,_)=>match p with
  | .bp nm j=> .ret (.bp nm (j+o))
  | .rp nm i j=> .ret (.rp nm i (j+o))
  | .sp e xs i j=> .ret (.sp e xs i (j+o))
  | .ip nm i j i2 j2=> .ret (.ip nm i j i2 (j2+o))
  | .fp xs j=> .ret (.fp xs (j+o))
  |_=> .fail
def Kg(E:eh)(e:au)(x:AV)(n:ax):Rd (aL×AV):=
 match x with
 | .sh e' xs=>bif a_ e e' then .ret (decide (0<=n)&&decide (n<(xs.length:ax)), .sp e' xs n.toNat 0)else .fail
 | .own nm=>(gV nm).bind λ
  | .row e' _ xs=>bif a_ e e' then .ret (decide (0<=n)&&decide (n<(xs.length:ax)), .rp nm n.toNat 0)else .fail
  | .ej e' xs=>bif a_ e e' then .ret (decide (0<=n)&&decide (n<(xs.length:ax)), .rp nm n.toNat 0)else .fail
  |_=> .fail
 | .vw nm lo hi=>(gV nm).bind λ
  | .row e' _ xs=>bif a_ e e' then .ret (decide (0<=n)&&decide (n<((hi-lo:au):ax)), .rp nm (lo+n.toNat) 0)else .fail
  | .ej e' xs=>bif a_ e e' then .ret (decide (0<=n)&&decide (n<((hi-lo:au):ax)), .rp nm (lo+n.toNat) 0)else .fail
  |_=> .fail
 | .inn nm i j=>(gV nm).bind λ
  | .row e1 ae xs=>(oZ E e1).bind λte=>match te.ks[j]? with
   |some (.l e')=>bif a_ e e' then .ret (decide (0<=n)&&decide (n<((ia (ao xs i j)).length:ax)), .ip nm i j n.toNat 0)else .fail
   |_=> .fail
  |_=> .fail
 |_=> .fail
def lr(x:ar cL)(d:ax):Rd ax:=
 match x with
 |none=> .ret d
 |some x=>(xp x).bind λ(_,n)=> .ret n
def iV(l h n:ax):aL:=decide (0<=l)&&decide (l<=h)&&decide (h<=n)
def Lj(e:au)(x:AV)(lo hi:ar cL):Rd (aL×AV):=
 match x with
 | .sh e' xs=>bif a_ e e' then(lr lo 0).bind λl=>(lr hi xs.length).bind λh=> .ret (iV l h xs.length, .sh e' (dM xs l.toNat h.toNat))else .fail
 | .own nm=>(gV nm).bind λ
  | .row e' _ xs=>bif a_ e e' then(lr lo 0).bind λl=>(lr hi xs.length).bind λh=> .ret (iV l h xs.length, .vw nm l.toNat h.toNat)else .fail
  | .ej e' xs=>bif a_ e e' then(lr lo 0).bind λl=>(lr hi xs.length).bind λh=> .ret (iV l h xs.length, .vw nm l.toNat h.toNat)else .fail
  |_=> .fail
 | .vw nm a b=>(gV nm).bind λ
  | .row e' _ _=>bif a_ e e' then(lr lo 0).bind λl=>(lr hi ((b-a:au):ax)).bind λh=> .ret (iV l h ((b-a:au):ax), .vw nm (a+l.toNat) (a+h.toNat))else .fail
  | .ej e' _=>bif a_ e e' then(lr lo 0).bind λl=>(lr hi ((b-a:au):ax)).bind λh=> .ret (iV l h ((b-a:au):ax), .vw nm (a+l.toNat) (a+h.toNat))else .fail
  |_=> .fail
 | .nl=>(lr lo 0).bind λl=>(lr hi 0).bind λh=> .ret (iV l h 0, .nl)
 |_=> .fail
def Er(E:eh)(k:Ck)(x:AV)(lo hi:ar cL):Rd (aL×AV):=
 match k,x with
 | .s, .s a=>(lr lo 0).bind λl=>(lr hi a.size).bind λh=> .ret (iV l h a.size, .s (a.extract l.toNat h.toNat))
 | .l e,x=>(oZ E e).bind λ_=>Lj e x lo hi
 |_,_=> .fail
def rT(e:au)(s:AV):Rd (aL×aY×ak au):=
 match s with
 | .nl=> .ret (ae,[],[])
 | .own nm=>(gV nm).bind λ
  | .row e' ex xs=>bif a_ e e' then .ret (ex,xs,[nm])else .fail
  |_=> .fail
 | .vw nm lo hi=>(gV nm).bind λ
  | .row e' ex xs=>bif a_ e e' then .ret (ex,dM xs lo hi,[nm])else .fail
  |_=> .fail
 |_=> .fail
def KD(E:eh)(pz e:au)(ks:ak Ck)(b:ak au)(x:AV):Rd (aL×aY×ak (au×dF)):=
 match x with
 | .s a=>bif Ua ks then .ret (ae,nE a,[])else .fail
 | .nl=> .ret (ae,[],[])
 | .sh e' xs=>bif a_ e e' then .ret (plain ks,xs,[])else .fail
 | .own nm=>(gV nm).bind λ
  | .row e' ex xs=>bif a_ e e' then
    (bif plain ks|| !ex then .ret (plain ks,xs,[])
    else bif jO nm b then .fail
    else bif E.tk pz then .ret (ah,xs,[(cf nm, .o (.ej e xs))])else .ret (ae,xs,[(cf nm, .o .dead)]))else .fail
  | .ej e' xs=>bif a_ e e' then .ret (plain ks,xs,[])else .fail
  |_=> .fail
 | .vw nm lo hi=>(gV nm).bind λ
  | .row e' ex xs=>bif a_ e e' then
    (bif plain ks|| !ex then .ret (plain ks,dM xs lo hi,[])
    else bif jO nm b then .fail
    else bif E.tk pz then .ret (ah,dM xs lo hi,[(cf nm, .o (.ej e xs))])else .fail)else .fail
  | .ej e' xs=>bif a_ e e' then .ret (plain ks,dM xs lo hi,[])else .fail
  |_=> .fail
 | .inn nm i j=>bif plain ks then(jM E (.inn nm i j)).bind λ(e',xs)=>bif a_ e e' then .ret (ae,xs,[])else .fail else .fail
 |_=> .fail
def lB(b:ak au):ak (au×dF):=b.map λn=>(cf n, .o .dead)
def z8(E:eh)(pz:au)(t:au)(s x:AV):Rd (aL×AV×ak (au×dF)):=
 (oZ E t).bind λti=>match ti.agg,ti.ks with
 |false,[.l e]=>(oZ E e).bind λte=>bif D9 te.ks then(rT e s).bind λ(xU,xs,b)=>
  (KD E pz e te.ks b x).bind λ(uV,ys,w2)=>(fresh pz).bind λ_=>
  .ret (cX (xs.length+ys.length) te.bytes, .own pz,lB b++(w2++[(cf pz, .o (.row e (xU&&uV) (xs++ys)))]))else .fail
 |_,_=> .fail
def L5(E:eh)(pz:au)(t:au)(s:AV)(n:ax):Rd (aL×AV×ak (au×dF)):=
 (oZ E t).bind λti=>match ti.agg,ti.ks with
 |false,[.l e]=>(oZ E e).bind λte=>bif D9 te.ks&&flat E te.ks then(rT e s).bind λ(ex,xs,b)=>(fresh pz).bind λ_=>
  .ret (decide (0<=n)&&cX (xs.length+n.toNat) te.bytes&&decide (n<=9223372036854775807), .own pz,lB b++[(cf pz, .o (.row e ex (xs++aM te.ks n.toNat)))])else .fail
 |_,_=> .fail
def JC(E:eh)(e:au)(x:AV):Rd (ak (au×dF)):=
 match x with
 | .own nm=>(gV nm).bind λ
  | .row e' ex xs=>(oZ E e).bind λte=>bif a_ e e'&&plain te.ks then .ret [(cf nm, .o (.row e' ex (aM te.ks xs.length)))]else .fail
  |_=> .fail
 | .vw nm lo hi=>(gV nm).bind λ
  | .row e' ex xs=>(oZ E e).bind λte=>bif a_ e e'&&plain te.ks then .ret [(cf nm, .o (.row e' ex (xs.take lo++aM te.ks (hi-lo)++xs.drop hi)))]else .fail
  |_=> .fail
 | .nl=> .ret []
 |_=> .fail
def gj(mx:aL)(a b:ax):ax:=bif mx then(if b>a then b else a)else(if b<a then b else a)
def sn(mx:aL):ak cL->ki->ax->Rd AV
 |[],k,a=> .ret (.i k a)
 |x::r,k,a=>(xp x).bind λ(_,b)=>sn mx r k (gj mx a b)
end Go.FG

namespace Go.FG
inductive Src where
 |own (nm e:au) (ex:aL)|no
structure Pk where
 a:AA
 src:Src
 rd:ak au
def uG(E:eh)(mt:aL)(a:AV):Rd Pk:=
 match a with
 | .i k n=> .ret ⟨.i k n, .no,[]⟩| .b x=> .ret ⟨.b x, .no,[]⟩| .s x=> .ret ⟨.s x, .no,[]⟩
 | .sh e xs=> .ret ⟨.sh e xs, .no,[]⟩
 | .nl=> .ret ⟨.nl, .no,[]⟩
 | .fn f fV=> .ret ⟨.fn f fV, .no,[]⟩
 | .own nm=>(gV nm).bind λ
  | .row e ex xs=>bif mt then .ret ⟨.ow e ex xs, .own nm e ex,[]⟩else .ret ⟨.sh e xs, .no,[nm]⟩
  | .ej e xs=> .ret ⟨.sh e xs, .no,[]⟩
  |_=> .fail
 | .vw nm lo hi=>bif mt then .fail else(gV nm).bind λ
  | .row e _ xs=> .ret ⟨.sh e (dM xs lo hi), .no,[nm]⟩
  | .ej e xs=> .ret ⟨.sh e (dM xs lo hi), .no,[]⟩
  |_=> .fail
 | .inn nm i j=>(gV nm).bind λ
  | .row e ae xs=>(oZ E e).bind λte=>match te.ks[j]? with
   |some (.l e2)=>(oZ E e2).bind λt2=>bif plain t2.ks&& !mt then .ret ⟨.sh e2 (ia (ao xs i j)), .no,[nm]⟩else .fail
   |_=> .fail
  |_=> .fail
 |_=> .fail
def xy(E:eh)(mt:aL):ak AV->Rd (ak Pk)
 |[]=> .ret []
 |a::r=>(uG E mt a).bind λp=>(xy E mt r).bind λl=> .ret (p::l)
structure Pa where
 arg:dO
 box:ar (au×ak AV)
 cs:ak Pk
def Sa(E:eh)(mt:aL)(x:SV):Rd Pa:=
 match x with
 | .v ah [.bp nm 0]=>bif mt then(gV nm).bind λ
   | .box xs=>(xy E ae xs).bind λl=> .ret ⟨.pt (l.map (·.a)),ab (nm,xs),l⟩
   |_=> .fail
  else .fail
 | .v agg xs=>(xy E mt xs).bind λl=> .ret ⟨.v agg (l.map (·.a)),af,l⟩
 |_=> .fail
def Oo:Ck->AV->AV
 | .l e, .nl=> .sh e []
 |_,a=>a
def w8:ak Ck->ak AV->ak AV
 |k::ks,a::r=>Oo k a::w8 ks r
 |_,r=>r
def nlz(E:Tab)(t:ar au)(v:SV):SV:=
 match t with
 |none=>v
 |some t=>match E.ty t,v with
  |some ti, .v g xs=> .v g (w8 ti.ks xs)
  |_,v=>v
def Jq(E:eh)(f:au)(Ij:ar (ak au)):au->ak cL->Rd (ak Pa)
 |_,[]=> .ret []
 |p,x::r=>(AM x).bind λv=>(Sa E (E.mode f p) (bif E.mode f p then v else nlz E (match Ij with|some l=>l[p]? |none=>af) v)).bind λa=>bif dZ a.cs.length 100 then(Jq E f Ij (p+1) r).bind λl=> .ret (a::l)else .fail
def Pk.qb(p:Pk):ak au:=match p.src with| .own nm _ _=>[nm]| .no=>[]
def Pa.qb(p:Pa):ak au:=(match p.box with|some (nm,_)=>[nm]|none=>[])++p.cs.flatMap (·.qb)
def Pa.kL(p:Pa):ak au:=p.cs.flatMap (·.rd)
def pA:ak au->aL
 |[]=>ae|n::r=> !jO n r&&pA r
def nZ:ak au->ak au->aL
 |[],_=>ae|n::r,l=> !jO n l&&nZ r l
def n7(ok:aL)(nm:au)(a:AA):Rd (AV×ak (au×dF)):=
 match a with
 | .i k n=> .ret (.i k n,[])| .b x=> .ret (.b x,[])| .s x=> .ret (.s x,[])| .nl=> .ret (.nl,[])
 | .sh e xs=>bif ok then .ret (.sh e xs,[])else .fail
 | .ow e ex xs=>bif ex||ok then(fresh nm).bind λ_=> .ret (.own nm,[(cf nm, .o (.row e ex xs))])else .fail
 |_=> .fail
def vj(ok:aL):au->ak AA->Rd (ak AV×ak (au×dF))
 |_,[]=> .ret ([],[])
 |nm,a::r=>(n7 ok nm a).bind λ(v,w)=>(vj ok (nm+1) r).bind λ(vs,ws)=> .ret (v::vs,w++ws)
def Ad(ok:aL)(nm:au)(a:dO):Rd ((aL×ak AV)×ak (au×dF)):=
 match a with
 | .v agg xs=>(vj ok nm xs).bind λ(vs,ws)=> .ret ((agg,vs),ws)
 | .pt xs=>(vj ok nm xs).bind λ(vs,ws)=>(fresh (nm+30)).bind λ_=> .ret ((ah,[.bp (nm+30) 0]),ws++[(cf (nm+30), .o (.box vs))])
 | .fb _=> .fail
def wj(ok:aL):au->ak dO->Rd (ak (aL×ak AV)×ak (au×dF))
 |_,[]=> .ret ([],[])
 |nm,a::r=>(Ad ok nm a).bind λ(v,w)=>(wj ok (nm+40) r).bind λ(vs,ws)=> .ret (v::vs,w++ws)
def zl(ok:aL)(p:Pk)(a:AA):Rd (ak (au×dF)):=
 match p.src,a with
 | .no,_=> .ret []
 | .own nm e ex, .kp xs=>bif ex||ok then .ret [(cf nm, .o (.row e ex xs))]else .fail
 | .own nm _ _, .nl=> .ret [(cf nm, .o .dead)]
 |_,_=> .fail
def Eg(ok:aL):ak Pk->ak AA->Rd (ak (au×dF))
 |[],_=> .ret []
 |p::r,l=>(zl ok p (l.headD .nl)).bind λw=>(Eg ok r l.tail).bind λws=> .ret (w++ws)
def xr(ok:aL)(nm:au)(p:Pk)(v:AV)(a:AA):Rd (AV×ak (au×dF)):=
 match p.src,a with
 | .own n e ex, .kp xs=>bif ex||ok then .ret (v,[(cf n, .o (.row e ex xs))])else .fail
 | .own n _ _,a=>(n7 ok nm a).bind λ(v,w)=> .ret (v,(cf n, .o .dead)::w)
 | .no,a=>n7 ok nm a
def ou(ok:aL):au->ak Pk->ak AV->ak AA->Rd (ak AV×ak (au×dF))
 |_,[],[],[]=> .ret ([],[])
 |nm,p::ps,v::vs,a::as=>(xr ok nm p v a).bind λ(v,w)=>(ou ok (nm+1) ps vs as).bind λ(vs,ws)=> .ret (v::vs,w++ws)
 |_,_,_,_=> .fail
def KU(ok:aL)(nm:au)(p:Pa)(l:ak AA):Rd (ak (au×dF)):=
 match p.box with
 |some (n,vs)=>(ou ok nm p.cs vs l).bind λ(vs,ws)=> .ret (ws++[(cf n, .o (.box vs))])
 |none=>Eg ok p.cs l
def Ef(ok:aL):au->ak Pa->ak (ak AA)->Rd (ak (au×dF))
 |_,[],_=> .ret []
 |nm,p::r,l=>(KU ok nm p (l.headD [])).bind λw=>(Ef ok (nm+40) r l.tail).bind λws=> .ret (w++ws)
def oL:ak (aL×ak AV)->SV
 |[(agg,xs)]=> .v agg xs
 |l=> .gM l
def kA:dO->au| .v _ xs=>xs.length| .pt xs=>xs.length| .fb _=>0
def JS:ak au->Rd (ak (au×dF))
 |[]=> .ret []
 |n::r=>(gV n).bind λ
  | .row e _ xs=>(JS r).bind λws=> .ret ((cf n, .o (.ej e xs))::ws)
  |_=> .fail
def Af(E:eh)(nm:au)(o:dU)(f:au)(args:ak cL)(Ij:ar (ak au))(fV:ak (ak CV)):Rd o7:=
 (Jq E f Ij 0 args).bind λps=>
  bif pA (ps.flatMap (·.qb))&&nZ (ps.flatMap (·.qb)) (ps.flatMap (·.kL))then
   match E.call f (ps.map (·.arg)++fV.map dO.fb)with
   |some (c,r)=>bif dZ ps.length 400&&(r.rs.all λa=>dZ (kA a) 30)&&(r.outs.all λa=>dZ a.length 100)then(JS (bif E.tk nm then ps.flatMap (·.kL)else [])).bind λw0=>
    (Ef (E.tk nm||(ps.flatMap (·.kL)).isEmpty) (nm+400) ps r.outs).bind λw1=>(wj (E.tk nm||(ps.flatMap (·.kL)).isEmpty) (nm+1) r.rs).bind λ(vs,w2)=>
    bif pA ((w1++w2).map (·.1))then .ret ⟨c,w0++(w1++w2)++dw o (oL vs)⟩else .fail else .fail
   |none=> .fail
  else .fail
def Rd.or{α:Type}:Rd α->Rd α->Rd α
 | .ret a,_=> .ret a
 | .fail,y=>y
 | .get k f,y=> .get k λc=>(f c).or y
def Fg(E:eh)(nm:au)(o:dU)(f:au)(args:ak cL)(Ij:ak au)(fV:ak (ak CV)):Rd o7:=
 (Af E nm o f args af fV).or (Af E nm o f args (ab Ij) fV)
def wT(E:eh)(o:dU)(f n i j:au)(y:cL):Rd o7:=
 (xp y).bind λ(k,m)=>(gV n).bind λ
  | .row e ae xs=>(oZ E e).bind λte=>match te.ks[j]? with
   |some (.l e2)=>match E.call f [.v ah [.ow e2 ae (ia (ao xs i j))], .v ah [.i k m]]with
    |some (c,r)=>match r.rs,r.outs with
     |[.v ah [.i k2 m2]],[[.kp ys]]=> .ret ⟨c,(cf n, .o (.row e ae (dP xs i j [.l e2 ys])))::dw o (.v ah [.i k2 m2])⟩
     |_,_=> .fail
    |none=> .fail
   |_=> .fail
  |_=> .fail
def Jy:ak cL->Rd (ak (ak CV)×ak (au×dF))
 |[]=> .ret ([],[])
 |x::r=>(oq x).bind λ
  | .bp nm 0=>(gV nm).bind λ
   | .box xs=>(Si xs).bind λcs=>(Jy r).bind λ(l,ws)=> .ret (cs::l,(cf nm, .o (.lk cs))::ws)
   | .lk cs=>(Jy r).bind λ(l,ws)=> .ret (cs::l,ws)
   |_=> .fail
  |_=> .fail
where Si:ak AV->Rd (ak CV)
 |[]=> .ret []
 |a::r=>(Si r).bind λl=>match a with
  | .i k n=> .ret (.i k n::l)| .b x=> .ret (.b x::l)| .s x=> .ret (.s x::l)
  | .sh e xs=> .ret (.l e xs::l)
  |_=> .fail
def jz(E:eh)(nm:au)(o:dU):Rd o7:=
 match o.op with
 | .move x| .assign x=>(AM x).bind λv=>val o v
 | .nilCheck x=>(oq x).bind λp=>match p with
  | .bp nm j=>val o (.v ah [.bp nm j])
  | .rp nm i j=>val o (.v ah [.rp nm i j])
  |_=> .fail
 | .pick c a b=>(oq c).bind λc=>(AM a).bind λa=>(AM b).bind λb=>
  match c,a,b with
  | .b c, .v ah [.b p], .v ah [.b q]=>uh o (.b (bif c then p else q))
  | .b c, .gM [],b=> .ret ⟨!c,dw o b⟩
  | .b c,a, .gM []=> .ret ⟨c,dw o a⟩
  |_,_,_=> .fail
 | .alloc t=>(oZ E t).bind λti=>bif D9 ti.ks then(fresh nm).bind λ_=> .ret ⟨ae,(cf nm, .o (.box (ti.ks.map xO)))::dw o (.v ah [.bp nm 0])⟩else .fail
 | .box t x=>(AM x).bind λ
  | .v _ xs=>(fresh nm).bind λ_=> .ret ⟨ae,(cf nm, .o (.box xs))::dw o (.v ah [.bp nm 0])⟩
  |_=> .fail
 | .build t ps=>(oZ E t).bind λti=>bif D9 ti.ks&&ti.agg then(AP E t ps.toList).bind λl=>val o (.v ae (Fu (ti.ks.map xO) l))else .fail
 | .buildSlice t n ps=>(oZ E t).bind λti=>match ti.agg,ti.ks with
  |false,[.l e]=>(oZ E e).bind λte=>bif D9 te.ks then(Fo ps.toList).bind λex=>(DB (ex&&flat E te.ks) te.ks ps.toList (aM te.ks n)).bind λ(xs,w)=>(fresh nm).bind λ_=>
   .ret ⟨dZ (n*te.ks.length) 16777216&&pA (w.map (·.1)),w++(cf nm, .o (.row e (ex&&flat E te.ks) xs))::dw o (.v ah [.own nm])⟩else .fail
  |_,_=> .fail
 | .load t p=>(oZ E t).bind λti=>(oq p).bind λp=>(pw E ti p).bind λxs=>val o (.v ti.agg xs)
 | .store t p x=>(oZ E t).bind λti=>(oq p).bind λp=>(AM x).bind λ
  | .v _ ys=>bif a_ ys.length ti.ks.length then(LM E p ys).bind λw=> .ret ⟨ae,w++dw o .un⟩else .fail
  |_=> .fail
 | .fieldAddr t p f=>(oq p).bind λp=>(JL E t f p).bind λq=>uh o q
 | .field t x f=>(AM x).bind λ
  | .v ae xs=>match E.fo t f with
   |some (j,n)=>bif E.JP t f&&a_ n 1 then(match xs.drop j with|a::_=>uh o a|[]=> .fail)else .fail
   |none=> .fail
  |_=> .fail
 | .indexAddr t x i=>(mT E t).bind λ
  | .l e=>(oq x).bind λx=>(xp i).bind λ(_,n)=>(Kg E e x n).bind λ(c,q)=>EA o c q
  |_=> .fail
 | .index t x i=>(mT E t).bind λk=>(oq x).bind λx=>(xp i).bind λ(_,n)=>match k,x with
  | .s, .s a=>EA o (decide (0<=n)&&decide (n<(a.size:ax))) (.i .u8 ((a.data.getD n.toNat 0).toNat:ax))
  |_,_=> .fail
 | .binOp op t x y _=>(AM x).bind λx=>(AM y).bind λy=>(Sf E t op x y).bind λ(c,v)=>EA o c v
 | .unOp op _ x=>(oq x).bind λx=>match op,x with
  | .not, .b x=>uh o (.b (!x))
  | .neg, .i k n=>uh o (.i k (k.wrap (0-n)))
  |_,_=> .fail
 | .convert src dst x=>(mT E src).bind λks=>(mT E dst).bind λkd=>(oq x).bind λx=>match kd,ks,x with
  | .i k, .i _, .i _ n=>uh o (.i k (k.wrap n))
  | .s, .s, .s a=>uh o (.s a)
  | .s, .l e', .nl=>(oZ E e').bind λte=>bif Ua te.ks&& !te.agg then uh o (.s ⟨#[]⟩)else .fail
  | .s, .l e',a=>(jM E a).bind λ(e,xs)=>(oZ E e).bind λte=>bif a_ e e'&&Ua te.ks&& !te.agg then EA o (decide (xs.length<=4611686018427387904)) (.s (bytesOf xs))else .fail
  |_,_,_=> .fail
 | .makeSlice t l c=>(xp l).bind λ(_,n)=>(xp c).bind λ(_,m)=>(oZ E t).bind λti=>match ti.agg,ti.ks with
  |false,[.l e]=>(oZ E e).bind λte=>bif D9 te.ks&&flat E te.ks then(fresh (bif plain te.ks then nm else nm+999)).bind λ_=> .ret ⟨decide (0<=n)&&decide (n=m)&&cX n.toNat te.bytes,(cf (bif plain te.ks then nm else nm+999), .o (.row e ae (aM te.ks n.toNat)))::dw o (.v ah [.own (bif plain te.ks then nm else nm+999)])⟩else .fail
  |_,_=> .fail
 | .slice t x lo hi mx=>match mx with
  |some _=> .fail
  |none=>(mT E t).bind λk=>(oq x).bind λx=>(Er E k x lo hi).bind λ(c,v)=>EA o c v
 | .extract x i=>(AM x).bind λ
  | .gM l=>match l[i]? with|some (agg,xs)=>val o (.v agg xs)|none=> .fail
  |_=> .fail
 | .makeFunc (.func f) first fV=>bif first.isEmpty then(Jy fV.toList).bind λ(l,ws)=> .ret ⟨ae,ws++dw o (.v ah [.fn f l])⟩else .fail
 | .call c=>match c.callee with
  | .builtin .len=>match c.args.toList,c.argTypes.toList with
   |[x],[t]=>(mT E t).bind λk=>(oq x).bind λx=>(Tw E k x).bind λn=>uh o (.i .i64 n)
   |_,_=> .fail
  | .builtin .cap=>match c.args.toList,c.argTypes.toList with
   |[x],[t]=>(mT E t).bind λ| .l _=>((oq x).bind λ| .nl=>uh o (.i .i64 0)|_=> .fail)|_=> .fail
   |_,_=> .fail
  | .builtin .min=>match c.args.toList with
   |x::r=>(xp x).bind λ(k,n)=>(sn ah r k n).bind λv=>uh o v
   |_=> .fail
  | .builtin .max=>match c.args.toList with
   |x::r=>(xp x).bind λ(k,n)=>(sn ae r k n).bind λv=>uh o v
   |_=> .fail
  | .builtin .clear=>match c.args.toList with
   |[x]=>match c.argTypes.toList with
    |[t]=>(mT E t).bind λ| .l e=>((oq x).bind λx=>(JC E e x).bind λw=> .ret ⟨ae,w++dw o (.gM [])⟩)|_=> .fail
    |_=> .fail
   |_=> .fail
  | .builtin .append=>match c.args.toList,c.argTypes.toList with
   |[s,x],[t,u]=>(mT E u).bind λku=>(oq s).bind λs=>(oq x).bind λx=>match ku,x with
    | .i _, .i _ n=>(L5 E nm t s n).bind λ(b,v,w)=> .ret ⟨b,w++dw o (.v ah [v])⟩
    | .l _,x=>(z8 E nm t s x).bind λ(b,v,w)=> .ret ⟨b,w++dw o (.v ah [v])⟩
    | .s,x=>(z8 E nm t s x).bind λ(b,v,w)=> .ret ⟨b,w++dw o (.v ah [v])⟩
    |_,_=> .fail
   |_,_=> .fail
  | .value f=>(oq f).bind λ
   | .fn f fV=>match c.args.toList,fV with
    |[x,y],[]=>(AM x).bind λ
     | .v ah [.inn n i j]=>bif E.mode f 0 then wT E o f n i j y else Fg E nm o f c.args.toList c.argTypes.toList fV
     |_=>Fg E nm o f c.args.toList c.argTypes.toList fV
    |_,_=>Fg E nm o f c.args.toList c.argTypes.toList fV
   |_=> .fail
  |_=> .fail
 |_=> .fail
inductive Ex where
 |normal|exit (id:au)|ret
structure Lg where
 rs:ak au
 ws:ak au
def Fy{R:Type}(a:AV)(f:AV->R):R:=
 match a with
 | .i k n=>f (.i k n)| .b x=>f (.b x)| .s x=>f (.s x)| .sh e xs=>f (.sh e xs)| .nl=>f .nl| .own n=>f (.own n)| .vw n lo hi=>f (.vw n lo hi)
 | .bp n j=>f (.bp n j)| .rp n i j=>f (.rp n i j)| .sp e xs i j=>f (.sp e xs i j)| .inn n i j=>f (.inn n i j)| .ip n i j i2 j2=>f (.ip n i j i2 j2)| .fn g fV=>f (.fn g fV)| .fp xs j=>f (.fp xs j)
def Ak{R:Type}(a:aL)(f:aL->R):R:=match a with|true=>f ae|false=>f ah
def mf{R:Type}:ak AV->(ak AV->R)->R
 |[],f=>f []|a::r,f=>Fy a λa=>mf r λr=>f (a::r)
def Am{R:Type}:ak (aL×ak AV)->(ak (aL×ak AV)->R)->R
 |[],f=>f []|(g,xs)::r,f=>Ak g λg=>mf xs λxs=>Am r λr=>f ((g,xs)::r)
def Al{R:Type}(v:SV)(f:SV->R):R:=
 match v with
 | .v g xs=>Ak g λg=>mf xs λxs=>f (.v g xs)| .gM l=>Am l λl=>f (.gM l)| .un=>f .un
def DL{R:Type}(o:Obj)(f:Obj->R):R:=
 match o with
 | .box xs=>mf xs λxs=>f (.box xs)| .lk cs=>f (.lk cs)| .row e ex xs=>Ak ex λex=>f (.row e ex xs)| .ej e xs=>f (.ej e xs)| .dead=>f .dead
def DK{R:Type}(c:dF)(f:dF->R):R:=
 match c with
 | .v x=>Al x λx=>f (.v x)| .o x=>DL x λx=>f (.o x)| .ie=>f .ie
def wI{R:Type}:ak (au×dF)->(ak (au×dF)->R)->R
 |[],f=>f []|(k,c)::r,f=>DK c λc=>wI r λr=>f ((k,c)::r)
theorem DJ{R:Type}(a:AV)(f:AV->R):Fy a f=f a:=by cases a<;>rfl
theorem tM{R:Type}(a:aL)(f:aL->R):Ak a f=f a:=by cases a<;>rfl
theorem kU{R:Type}:∀(l:ak AV) (f:ak AV->R),mf l f=f l
 |[],_=>rfl
 |a::r,f=>by simp only[mf,DJ,kU r]
theorem yW{R:Type}:∀(l:ak (aL×ak AV)) (f:ak (aL×ak AV)->R),Am l f=f l
 |[],_=>rfl
 |(g,xs)::r,f=>by simp only[Am,tM,kU,yW r]
theorem DM{R:Type}(v:SV)(f:SV->R):Al v f=f v:=by cases v<;>simp only[Al,tM,kU,yW]
theorem GZ{R:Type}(v:Obj)(f:Obj->R):DL v f=f v:=by cases v<;>simp only[DL,tM,kU]
theorem GY{R:Type}(v:dF)(f:dF->R):DK v f=f v:=by cases v<;>simp only[DK,DM,GZ]
theorem yX{R:Type}:∀(l:ak (au×dF)) (f:ak (au×dF)->R),wI l f=f l
 |[],_=>rfl
 |(k,c)::r,f=>by simp only[wI,GY,yX r]
def ops{R:Type}(E:eh)(all:cG dU)(lx:au):au->ak dU->St->ak Lg->(St->ak Lg->ar R)->ar R
 |_,[],σ,lg,K=>K σ lg
 |i,o::rest,σ,lg,K=>match o.guard with
  |none=>match (jz E ((lx+1)*1000000+i*1000) o).run σ []with
   |some (e,l)=>bif e.cond then wI e.ws (λws=>ops E all lx (i+1) rest (wr σ ws) (⟨l,ws.map (·.1)⟩::lg) K)else af
   |none=>af
  |some (g,want)=>match (all.getD g default).dst with
   |none=>af
   |some d=>match σ (nh d)with
    | .v (.v ah [.b x])=>
     let perform:=λy=>match (jz E ((lx+1)*1000000+i*1000) o).run (mK σ (nh d) (.v (.v ah [.b y]))) []with
      |some (e,l)=>bif e.cond then wI e.ws (λws=>ops E all lx (i+1) rest (wr (mK σ (nh d) (.v (.v ah [.b y]))) ws) (⟨nh d::l,ws.map (·.1)⟩::lg) K)else af
      |none=>af
     let skip:=λy=>ops E all lx (i+1) rest (wr (mK σ (nh d) (.v (.v ah [.b y]))) (dw o (.gM []))) (⟨[nh d],(dw o (.gM [])).map (·.1)⟩::lg) K
     bif x then(bif want then perform ae else skip ae)else(bif want then skip ah else perform ah)
    | .v (.gM [])=>ops E all lx (i+1) rest (wr σ (dw o (.gM []))) (⟨[nh d],(dw o (.gM [])).map (·.1)⟩::lg) K
    |_=>af
def Sn(acc:ak au):ak au->ak au
 |[]=>acc|n::r=>bif jO n acc then Sn acc r else Sn (n::acc) r
def jZ{R:Type}:ak au->(ak au->R)->R
 |[],f=>f []|n::r,f=>jZ r λr=>f (n::r)
def vx{R:Type}:ak (ak au)->(ak (ak au)->R)->R
 |[],f=>f []|n::r,f=>jZ n λn=>vx r λr=>f (n::r)
theorem lT{R:Type}:∀(l:ak au) (f:ak au->R),jZ l f=f l
 |[],_=>rfl
 |n::r,f=>by simp only[jZ,lT r]
theorem wH{R:Type}:∀(l:ak (ak au)) (f:ak (ak au)->R),vx l f=f l
 |[],_=>rfl
 |n::r,f=>by simp only[vx,lT,wH r]
theorem Ag:∀(l acc:ak au) (x:au),x∈Sn acc l->x∈acc\/x∈l
 |[],_,_,h=> .inl h
 |n::r,acc,x,h=>by
  unfold Sn at h;cases hb:jO n acc with
  |true=>
   rw[hb]at h;rcases Ag r acc x h with h|h
   ·exact .inl h
   ·exact .inr (b_ _ h)
  |false=>
   rw[hb]at h;rcases Ag r (n::acc) x h with h|h
   ·rcases bP.1 h with rfl|h
    ·exact .inr cR
    ·exact .inl h
   ·exact .inr (b_ _ h)
def z7:ak (ak au)->ak dU->ak (ak au)
 |acc,[]=>acc
 |acc,o::r=>jZ (Sn [] (o.after.toList.flatMap λe=>bif jT .any e then e.on::acc.getD e.on []else [])) λx=>z7 (acc++[x]) r
def Cv:au->ak dU->aL
 |_,[]=>ae
 |i,o::r=>(o.after.toList.all λe=> !Region.binds .any e||Nat.blt e.on i)&&Cv (i+1) r
def wx(a b:Lg):aL:= !(nZ a.ws b.ws&&nZ a.ws b.rs&&nZ b.ws a.rs)
def vm(an:ak au)(j:au)(a:Lg):au->ak Lg->aL
 |_,[]=>ae
 |i,b::r=>(jO i an|| !wx a b)&&vm an j a (i+1) r
def calm:au->ak (ak au)->ak Lg->ak Lg->aL
 |_,_,_,[]=>ae
 |j,an,done,a::r=>vm (an.getD j []) j a 0 done&&calm (j+1) an (done++[a]) r
def vv{R:Type}:ak Lg->(ak Lg->R)->R
 |[],f=>f []|a::r,f=>jZ a.rs λrs=>jZ a.ws λws=>vv r λr=>f (⟨rs,ws⟩::r)
theorem wG{R:Type}:∀(l:ak Lg) (f:ak Lg->R),vv l f=f l
 |[],_=>rfl
 |n::r,f=>by simp only[vv,lT,wG r]
def Fh(an:ak (ak au))(l:ak Lg):aL:=vx an λan=>vv l λl=>calm 0 an [] l
theorem Jx(an:ak (ak au))(l:ak Lg):Fh an l=calm 0 an [] l:=by simp only[Fh,wH,wG]
def bh:AV->ak au
 | .own n=>[n]| .vw n _ _=>[n]| .bp n _=>[n]| .rp n _ _=>[n]| .inn n _ _=>[n]| .ip n _ _ _ _=>[n]|_=>[]
def bO:SV->ak au
 | .v _ xs=>xs.flatMap bh| .gM l=>l.flatMap λ(_,xs)=>xs.flatMap bh| .un=>[]
def MV:ak au->ak au->ak au
 |l,[]=>l
 |l,n::r=>jZ (bif jO n l then l else l++[n]) λl=>MV l r
def slot(σ:St)(n:au):SV:=match σ (nh n)with| .v x=>x|_=> .un
def W_(σ:St)(nm:au):ak au:=match σ (cf nm)with| .o (.box xs)=>xs.flatMap bh|_=>[]
def idx(n:au):au->ak au->ar au
 |_,[]=>af|i,m::r=>bif a_ n m then ab i else idx n (i+1) r
def enc(f:aL)(k:au):au:=bif f then k*1000+999 else k
def rq(l:ak au)(n:au):ar au:=bif dZ 900000000 n then(bif jO n l then ab n else af)else(match idx n 0 l with|some k=>ab (enc (tO n) k)|none=>af)
def mV(l:ak au)(a:AV):AV:=
 match a with
 | .own n=>match rq l n with|some k=> .own k|none=> .nl
 | .vw n lo hi=>match rq l n with|some k=> .vw k lo hi|none=> .nl
 | .bp n j=>match rq l n with|some k=> .bp k j|none=> .nl
 | .rp n i j=>match rq l n with|some k=> .rp k i j|none=> .nl
 | .inn n i j=>match rq l n with|some k=> .inn k i j|none=> .nl
 | .ip n i j i2 j2=>match rq l n with|some k=> .ip k i j i2 j2|none=> .nl
 |a=>a
def tQ(l:ak au)(ns:ak au):aL:=ns.all λn=>jO n l
def zo(l:ak au)(v:SV):SV:=
 bif tQ l (bO v)then(match v with
 | .v agg xs=> .v agg (xs.map (mV l))| .gM r=> .gM (r.map λ(g,xs)=>(g,xs.map (mV l)))| .un=> .un)else .un
def Hy(l:ak au)(o:dF):dF:=
 match o with
 | .o (.box xs)=>bif tQ l (xs.flatMap bh)then .o (.box (xs.map (mV l)))else .o .dead
 | .o x=> .o x
 |_=> .o .dead
def gk:ak (au×dF)->St
 |[],_=> .ie
 |(k,c)::r,n=>bif a_ n k then c else gk r n
def rk(σ:St)(l:ak au):ak au->ak (au×dF)
 |[]=>[]|n::r=>match rq l n with|some k=>(cf k,Hy l (σ (cf n)))::rk σ l r|none=>rk σ l r
def Dx(keep:ak au)(σ:St):ak au:=
 jZ (MV [] (keep.flatMap λn=>bO (slot σ n))) λl0=>jZ (MV l0 (l0.flatMap (W_ σ))) λl1=>MV l1 (l1.flatMap (W_ σ))
def Dw(keep:ak au)(σ:St)(l:ak au):ak (au×dF):=
 bif dZ l.length 900 then keep.map (λn=>(nh n, .v (zo l (slot σ n))))++rk σ l l else []
def NY(x:au):aL:=dZ 1000000000000000 x
def Qp(x:au):au:=(x/1000000)%1000000000
def Kp(x:au):au:=(x/1000)%1000
def Tn(x:au):au:=x%1000
def UM(x:au):au:=800000000+((x/1000)%1000000)*100
def uF{α:Type}(x:au)(σ:St)(f:St->α):α:=
 match slot σ (Qp x)with
 | .v ah [.bp nm 0]=>match σ (cf nm),σ (cf (UM x))with
  | .o (.box xs), .ie=>match xs[Kp x]? with
   |some .nl=>mf (xs.set (Kp x) (.own (UM x))) λys=>f (mK (mK σ (cf nm) (.o (.box ys))) (cf (UM x)) (.o (.row (Tn x) ae [])))
   |_=>f σ
  |_,_=>f σ
 |_=>f σ
def FU{α:Type}:ak au->St->(St->α)->α
 |[],σ,f=>f σ
 |x::r,σ,f=>bif NY x then uF x σ (λσ=>FU r σ f)else FU r σ f
def Dy(keep:ak au)(σ:St):ak (au×dF):=FU keep σ λσ=>jZ (keep.filter λx=> !NY x) λkeep=>jZ (Dx keep σ) λl=>Dw keep σ l
def gZ(keep:ak au)(σ:St):St:=gk (Dy keep σ)
def eh.uD(E:eh)(n:au):ak au:=(E.keep n).filter λx=>bif NY x then(match E.ty (Tn x)with|some _=>ae|none=>ah)else ae
def eS:Code->au
 | .region id _ _=>id| .seq a _=>eS a| .block _ c=>eS c| .scope c=>eS c|_=>0
def zf{R:Type}(g:St->ar R)(cn:St->St)(K:Ex->St->ar R):Ex->St->ar R
 | .normal,σ=>g (cn σ)
 |e,σ=>K e (cn σ)
def iter{R:Type}(f:St->(Ex->St->ar R)->ar R)(cn:St->St):au->St->(Ex->St->ar R)->ar R
 |0,_,_=>af
 |n+1,σ,K=>f σ (zf (λs=>iter f cn n s K) cn K)
theorem Hb{R:Type}(f:St->(Ex->St->ar R)->ar R)(cn:St->St)(n:au)(σ:St)(K:Ex->St->ar R):iter f cn (n+1) σ K=f σ (zf (λs=>iter f cn n s K) cn K):=rfl
abbrev It(R:Type):=au->(St->(Ex->St->ar R)->ar R)->(St->St)->ak (au×dF)->(Ex->St->ar R)->ar R
def afE{R:Type}(n:au):It R:=λ_ f cn L K=>iter f cn n (gk L) K
def aeg{R:Type}(f:St->(Ex->St->ar R)->ar R)(K:Ex->St->ar R):Ex->St->ar R
 | .normal,σ=>f σ K
 |e,σ=>K e σ
def abc{R:Type}(id:au)(K:Ex->St->ar R):Ex->St->ar R
 | .exit j,σ=>bif a_ j id then K .normal σ else K (.exit j) σ
 |e,σ=>K e σ
def pf{R:Type}(E:eh)(it:It R):Code->St->(Ex->St->ar R)->ar R
 | .skip,σ,K=>K .normal σ
 | .region id os draw,σ,K=>ops E os id 0 os.toList σ [] λσ lg=>bif !draw||(Cv 0 os.toList&&Fh (z7 [] os.toList) lg.reverse)then K .normal σ else af
 | .seq a b,σ,K=>pf E it a σ (aeg (pf E it b) K)
 | .cond c a b,σ,K=>match c with
  | .tmp t=>match σ (nh t)with
   | .v (.v ah [.b x])=>bif x then(pf E it a (mK σ (nh t) (.v (.v ah [.b ae]))) K)else(pf E it b (mK σ (nh t) (.v (.v ah [.b ah]))) K)
   |_=>af
  |_=>af
 | .block id c,σ,K=>pf E it c σ (abc id K)
 | .loop c,σ,K=>it (eS c) (pf E it c) (gZ (E.uD (eS c))) (Dy (E.uD (eS c)) σ) K
 | .exit id,σ,K=>K (.exit id) σ
 | .ret,σ,K=>K .ret σ
 |_,_,_=>af
def ib:Code->ak Code
 | .seq a b=>ib a++ib b
 | .cond _ a b=>ib a++ib b
 | .block _ c=>ib c
 | .loop c=>c::ib c
 |_=>[]
def wU(lx:au):Code->ar Code
 | .seq a b=>match wU lx a with|some r=>ab r|none=>wU lx b
 | .cond _ a b=>match wU lx a with|some r=>ab r|none=>wU lx b
 | .block _ c=>wU lx c
 | .loop c=>bif a_ (eS c) lx then ab c else wU lx c
 |_=>af
def di(F:Func)(lx:au):Code:=((F.body.bind (wU lx)).getD .skip)
end Go.FG

namespace Go.FG
def c9(p j:au):au:=900000000+p*1000+j
def iW(nm:au)(a:AA):AV:=
 match a with
 | .i k n=> .i k n| .b x=> .b x| .s x=> .s x| .sh e xs=> .sh e xs| .nl=> .nl
 | .ow _ _ _=> .own nm| .kp _=> .nl| .fn f fV=> .fn f fV
def zd(nm:au)(a:AA):ak (au×dF):=match a with| .ow e ex xs=>[(cf nm, .o (.row e ex xs))]|_=>[]
def eN(nm:au):ak AA->ak AV
 |[]=>[]|a::r=>iW nm a::eN (nm+1) r
def po(nm:au):ak AA->ak (au×dF)
 |[]=>[]|a::r=>zd nm a++po (nm+1) r
def pq(p:au)(a:dO):SV:=
 match a with
 | .v agg xs=> .v agg (eN (c9 p 0) xs)
 | .pt _=> .v ah [.bp (c9 p 900) 0]
 | .fb xs=> .v ah [.fp xs 0]
def qD(p:au)(a:dO):ak (au×dF):=
 match a with
 | .v _ xs=>po (c9 p 0) xs
 | .pt xs=>(cf (c9 p 900), .o (.box (eN (c9 p 0) xs)))::po (c9 p 0) xs
 | .fb _=>[]
def D0:au->ak dO->ak (au×dF)
 |_,[]=>[]|p,a::r=>(nh p, .v (pq p a))::qD p a++D0 (p+1) r
def inj(args:ak dO):St:=gk (D0 0 args)
def uC(E:eh)(e:au):aL:=match E.ty e with|some _=>ae|none=>ah
def uB(E:eh)(om:Om)(σ:St)(k:Ck)(a:AV):ar (AA×ak au×ak au):=
 match a with
 | .i k n=>ab (.i k n,[],[])| .b x=>ab (.b x,[],[])| .s x=>ab (.s x,[],[])
 | .sh e xs=>match om with| .own _=>af|_=>ab (.sh e xs,[],[])
 | .nl=>match om with
  | .own e=>bif uC E e then ab (.ow e ae [],[],[])else af
  | .sh e=>ab (.sh e [],[],[])
  | .nat=>match k with| .l e=>bif uC E e then ab (.ow e ae [],[],[])else af|_=>ab (.nl,[],[])
 | .own nm=>match σ (cf nm)with
  | .o (.row e ex xs)=>match om with| .sh _=>ab (.sh e xs,[],[nm])|_=>ab (.ow e ex xs,[nm],[])
  | .o (.ej e xs)=>match om with| .own _=>af|_=>ab (.sh e xs,[],[])
  |_=>af
 | .vw nm lo hi=>match σ (cf nm)with
  | .o (.row e ex xs)=>match om with| .sh _=>ab (.sh e (dM xs lo hi),[],[nm])|_=>ab (.ow e ex (dM xs lo hi),[nm],[])
  | .o (.ej e xs)=>match om with| .own _=>af|_=>ab (.sh e (dM xs lo hi),[],[])
  |_=>af
 |_=>af
def ph(E:eh)(q:au)(σ:St):au->ak Ck->ak AV->ar (ak AA×ak au×ak au)
 |_,_,[]=>ab ([],[],[])
 |j,ks,a::r=>match uB E (E.om q j) σ (ks.headD .o) a,ph E q σ (j+1) ks.tail r with
  |some (x,l,m),ab (xs,ls,ms)=>ab (x::xs,l++ls,m++ms)
  |_,_=>af
def Fv(E:eh)(q:au)(σ:St)(ks:ak Ck)(v:SV):ar (dO×ak au×ak au):=
 match v with
 | .v ah [.bp nm 0]=>match σ (cf nm)with
  | .o (.box xs)=>match ph E q σ 0 [] xs with|some (l,ns,ms)=>ab (.pt l,nm::ns,ms)|none=>af
  |_=>af
 | .v agg xs=>match ph E q σ 0 ks xs with|some (l,ns,ms)=>ab (.v agg l,ns,ms)|none=>af
 |_=>af
def K9(E:eh)(q:au)(σ:St)(r:ResultVar)(t:au):ar (dO×ak au×ak au):=
 match E.ty t with
 |none=>af
 |some ti=>match r with
  | .tmp s=>Fv E q σ ti.ks (slot σ s)
  | .cell a t'=>match E.ty t',slot σ a with
   |some LP, .v ah [.bp nm 0]=>match σ (cf nm)with| .o (.box xs)=>bif a_ xs.length LP.ks.length then Fv E q σ ti.ks (.v LP.agg xs)else af|_=>af
   |_,_=>af
def xB(E:eh)(σ:St):au->ak ResultVar->ak au->ar (ak dO×ak au×ak au)
 |_,[],_=>ab ([],[],[])
 |q,r::rs,ts=>match K9 E q σ r (ts.headD 0),xB E σ (q+1) rs ts.tail with
  |some (a,l,m),ab (as,ls,ms)=>ab (a::as,l++ls,m++ms)
  |_,_=>af
def CI(a b:aL):aL:=bif a then b else !b
def kD(σ:St)(tk:ak au)(nm:au)(a:AA):AA×ak au:=
 match a with
 | .ow e ex _=>bif jO nm tk then(.nl,[])else(match σ (cf nm)with| .o (.row e' pY xs)=>bif a_ e e'&&CI ex pY then(.kp xs,[nm])else(.nl,[])|_=>(.nl,[]))
 |_=>(.nl,[])
def mS(σ:St)(tk:ak au)(nm:au):ak AA->ak AA×ak au
 |[]=>([],[])|a::r=>((kD σ tk nm a).1::(mS σ tk (nm+1) r).1,(kD σ tk nm a).2++(mS σ tk (nm+1) r).2)
def PR(E:eh)(om:Om)(σ:St)(nm:au)(b:AA)(a:AV):ar (AA×ak au×ak au):=
 match om,b,a with
 | .nat, .ow e ex _, .own n=>bif a_ n nm then(match σ (cf n)with| .o (.row e' pY xs)=>bif a_ e e'&&CI ex pY then ab (.kp xs,[n],[])else af|_=>af)else uB E om σ .o a
 |_,_,a=>uB E om σ .o a
def Ae(E:eh)(q:au)(σ:St):au->ak AA->ak AV->ar (ak AA×ak au×ak au)
 |_,_,[]=>ab ([],[],[])
 |j,bs,a::r=>match PR E (E.om q j) σ (c9 q j) (bs.headD .nl) a,Ae E q σ (j+1) bs.tail r with
  |some (x,l,m),ab (xs,ls,ms)=>ab (x::xs,l++ls,m++ms)
  |_,_=>af
def JV:ak AA->aL
 |[]=>ah| .ow _ _ _::_=>ae|_::r=>JV r
def xu(E:eh)(σ:St)(tk:ak au):au->ak dO->ar (ak (ak AA)×ak au×ak au)
 |_,[]=>ab ([],[],[])
 |p,a::r=>match xu E σ tk (p+1) r with
  |none=>af
  |some (l,ns,ms)=>match a with
   | .v _ xs=>bif JV xs then ab ((mS σ tk (c9 p 0) xs).1::l,(mS σ tk (c9 p 0) xs).2++ns,ms)else ab ([]::l,ns,ms)
   | .pt xs=>match σ (cf (c9 p 900))with
    | .o (.box vs)=>match Ae E p σ 0 xs vs with|some (as,ns',ms')=>ab (as::l,c9 p 900::(ns'++ns),ms'++ms)|none=>af
    |_=>af
   | .fb _=>ab ([]::l,ns,ms)
def pX:ak (ak AA)->ak (ak AA)
 |[]=>[]
 |x::r=>match x,pX r with|[],[]=>[]|x,r=>x::r
def fin(E:eh)(F:Func)(args:ak dO)(e:Ex)(σ:St):ar dp:=
 match e with
 | .exit _=>af
 |_=>match xB E σ 500 F.results.toList F.resultTypes.toList with
  |some (rs,tk,fz)=>match xu E σ (tk++fz) 0 args with
   |some (outs,ns,ms)=>bif pA (tk++ns)&&nZ (tk++ns) (fz++ms)&&dZ args.length 500&&(args.all λa=>dZ (kA a) 100)&&(rs.all λa=>dZ (kA a) 100)&&(outs.all λa=>dZ a.length 100)then ab ⟨rs,pX outs⟩else af
   |none=>af
  |none=>af
def body(E:eh)(it:It dp)(F:Func)(args:ak dO):ar dp:=
 match F.body with
 |some c=>pf E it c (inj args) (fin E F args)
 |none=>af
end Go.FG

namespace Go.FG
structure Pl where
 nil:aL
 blk:au
 off:au
 cap:au
 n:au
 sz:au
def jj(p:Pl):aR:=if p.nil=ae then .slice af 0 0 else .slice (ab ⟨p.blk,p.off,af⟩) p.n p.cap
def k8(w:bf)(b:au)(vals:cG aR):Prop:=
 ∃t fr,w.heap[b]? =ab (.cells vals t fr)/\∀o,o<=vals.size->(decide (fr.1<=o)&&decide (o<fr.2))=ah
def HH:CV->aR
 | .i k n=> .int k n| .b x=> .bool x| .s x=> .string x| .l _ _=> .nilIface
def Ox(x:ai):Prop:=x.size<=4611686018427387904
def okC:CV->Prop
 | .s x=>Ox x|_=>True
def Sc(u:aR)(x:CV):Prop:=u=HH x/\okC x
structure dJ where
 P:au->Pl
 G:au->au->au->Pl
 K:au->Prop
abbrev ad(b o:au):Addr:=⟨b,o,af⟩
inductive ch (E:Tab) (w:bf) (K:au->Prop):aR->CV->Prop
 |i (k n):ch E w K (.int k n) (.i k n)
 |b (x):ch E w K (.bool x) (.b x)
 |s (x) (h:Ox x):ch E w K (.string x) (.s x)
 |nl (e A c):ch E w K (.slice A 0 c) (.l e [])
 |l (e xs b o c ti) (U:au->au->aR) (ht:E.ty e=ab ti) (hc:xs.length<=c) (hm:c<=maxLen) (hK:K b) (hs:∀y∈xs,y.map CV.kd=ti.ks)
  (hcell:∀i j y x,xs[i]? =ab y->y[j]? =ab x->w.cell? (ad b (o+i*ti.ks.length+j))=ab (U i j))
  (fO:∀i j y x,xs[i]? =ab y->y[j]? =ab x->ch E w K (U i j) x):ch E w K (.slice (ab (ad b o)) xs.length c) (.l e xs)
theorem k8.cell{w:bf}{b:au}{vals:cG aR}(h:k8 w b vals)(o:au):w.cell? (ad b o)=vals[o]? :=by obtain⟨t,fr,h,_⟩:=h;simp[Vj,h]
theorem k8.lt{w:bf}{b:au}{vals:cG aR}(h:k8 w b vals):b<w.heap.size:=by obtain⟨t,fr,h,_⟩:=h;exact(c_.1 h).1
theorem k8.free{w:bf}{b:au}{vals:cG aR}(h:k8 w b vals){o:au}(ho:o<vals.size):w.frozen? (ad b o)=false:=by obtain⟨t,fr,h,hf⟩:=h;have:=hf o (Us ho);simpa [Pf,h]using this
theorem k8.frame{w w':bf}{b:au}{vals:cG aR}(h:k8 w b vals)(e:w'.heap[b]? =w.heap[b]?):k8 w' b vals:=by obtain⟨t,fr,h,hf⟩:=h;exact⟨t,fr,e.trans h,hf⟩
theorem ch.frame{E:Tab}{w w':bf}{K K':au->Prop}{v:aR}{x:CV}(h:ch E w K v x)(hw:∀b,K b->w'.heap[b]? =w.heap[b]?)(hK:∀b,K b->K' b):ch E w' K' v x:=by
 induction h with
 |i=>exact .i _ _
 |b=>exact .b _
 |s x h=>exact .s _ h
 |nl=>exact .nl _ _ _
 |l e xs b o c ti U ht hc hm hKb hs hcell fO ih=>exact .l e xs b o c ti U ht hc hm (hK b hKb) hs (λi j y x h1 h2=>(qo (a:=ad b _) (hw b hKb)).trans (hcell i j y x h1 h2)) (λi j y x h1 h2=>ih i j y x h1 h2)
structure gq (w:bf) (p:Pl) (xs:aY) (R:au->au->aR->CV->Prop):Prop where
 n:p.n=xs.length
 nil:p.nil=ae->xs=[]/\p.cap=0
 mem:p.nil=ah->∃vals,k8 w p.blk vals/\p.n<=p.cap/\p.cap<=maxLen/\p.off+p.cap*p.sz<=vals.size/\
  ∀(i:au) (y:ak CV) (j:au) (x:CV),xs[i]? =ab y->y[j]? =ab x->∃u:aR,vals[p.off+i*p.sz+j]? =ab u/\R i j u x
def XC(E:Tab)(w:bf)(G:au->au->Pl)(i j:au)(u:aR):CV->Prop
 | .l e ys=>u=jj (G i j)/\∃ti,E.ty e=ab ti/\plain ti.ks=ae/\(G i j).sz=ti.ks.length/\(∀y∈ys,y.map CV.kd=ti.ks)/\gq w (G i j) ys (λ_ _ u x=>Sc u x)
 |x=>Sc u x
def p_:CV->aL| .l _ _=>ae|_=>ah
def eK(xs:aY)(i j:au):Prop:=∃y x,xs[i]? =ab y/\y[j]? =ab x/\p_ x=ae
structure zL (p:Pl) (G:au->au->Pl) (xs:aY):Prop where
 out:∀i j,eK xs i j->(G i j).nil=ah->p.nil=ah->(G i j).blk≠p.blk
 one:∀i j i' j',eK xs i j->eK xs i' j'->(G i j).nil=ah->(G i' j').nil=ah->(G i j).blk=(G i' j').blk->i=i'/\j=j'
structure EW (E:Tab) (w:bf) (c:dJ) (nm e:au) (ex:aL) (xs:aY):Prop where
 sh:∃ti,E.ty e=ab ti/\(c.P nm).sz=ti.ks.length/\∀y∈xs,y.map CV.kd=ti.ks
 at_:gq w (c.P nm) xs (λi j u x=>if ex=ae then XC E w (c.G nm) i j u x else ch E w c.K u x)
 inn:ex=ae->zL (c.P nm) (c.G nm) xs
def FB(E:Tab)(w:bf)(K:au->Prop)(b:au)(cs:ak CV):Prop:=
 K b/\∀(q:au) (x:CV),cs[q]? =ab x->∃u:aR,w.cell? (ad b q)=ab u/\ch E w K u x
def rS(p:Pl)(lo hi:au)(v:aR):Prop:=
 lo<=hi/\hi<=p.n/\(p.nil=ae->v= .slice af 0 0)/\
 (p.nil=ah->(lo<p.cap/\v= .slice (ab (ad p.blk (p.off+lo*p.sz))) (hi-lo) (p.cap-lo))\/(lo=p.cap/\∃o,o<=p.off+p.cap*p.sz/\v= .slice (ab (ad p.blk o)) 0 0))
def dz(E:Tab)(w:bf)(c:dJ):AV->aR->Prop
 | .i k n,v=>v= .int k n
 | .b x,v=>v= .bool x
 | .s x,v=>v= .string x/\Ox x
 | .sh e xs,v=>ch E w c.K v (.l e xs)
 | .nl,v=>v= .slice af 0 0
 | .own nm,v=>v=jj (c.P nm)
 | .vw nm lo hi,v=>rS (c.P nm) lo hi v
 | .bp nm j,v=>v= .pointer (ab (ad (c.P nm).blk j))
 | .rp nm i j,v=>i<(c.P nm).n/\v= .pointer (ab (ad (c.P nm).blk ((c.P nm).off+i*(c.P nm).sz+j)))
 | .sp e xs i j,v=>∃b o cp ti,ch E w c.K (.slice (ab (ad b o)) xs.length cp) (.l e xs)/\i<xs.length/\E.ty e=ab ti/\v= .pointer (ab (ad b (o+i*ti.ks.length+j)))
 | .inn nm i j,v=>(i<(c.P nm).n/\v=jj (c.G nm i j))/\tO nm=ah
 | .ip nm i j i2 j2,v=>(i<(c.P nm).n/\i2<(c.G nm i j).n/\v= .pointer (ab (ad (c.G nm i j).blk ((c.G nm i j).off+i2*(c.G nm i j).sz+j2))))/\tO nm=ah
 | .fn f fV,v=>∃ps:cG aR,v= .func (.func f) #[] ps/\ps.size=fV.length/\∀(q:au) (cs:ak CV),fV[q]? =ab cs->∃b:au,ps[q]? =ab (.pointer (ab (ad b 0)))/\FB E w c.K b cs
 | .fp cs j,v=>∃b,v= .pointer (ab (ad b j))/\FB E w c.K b cs
def m9(E:Tab)(w:bf)(c:dJ)(agg:aL)(xs:ak AV)(v:aR):Prop:=
 match agg,xs with
 |false,[a]=>dz E w c a v
 |true,xs=>∃vals:cG aR,v= .agg vals/\vals.size=xs.length/\∀(j:au) (a:AV),xs[j]? =ab a->∃u:aR,vals[j]? =ab u/\dz E w c a u
 |_,_=>False
def gu(E:Tab)(w:bf)(c:dJ):SV->aR->Prop
 | .v agg xs,v=>m9 E w c agg xs v
 | .gM l,v=>∃vs:cG aR,v= .tuple vs/\vs.size=l.length/\∀(j:au) (agg:aL) (xs:ak AV),l[j]? =ab (agg,xs)->∃u:aR,vs[j]? =ab u/\m9 E w c agg xs u
 | .un,_=>True
def mM(E:Tab)(w:bf)(c:dJ)(nm:au):Obj->Prop
 | .box xs=>∃vals,k8 w (c.P nm).blk vals/\vals.size=xs.length/\∀(j:au) (a:AV),xs[j]? =ab a->∃u:aR,vals[j]? =ab u/\dz E w c a u
 | .lk cs=>FB E w c.K (c.P nm).blk cs
 | .row e ex xs=>EW E w c nm e ex xs
 | .ej e xs=>ch E w c.K (jj (c.P nm)) (.l e xs)/\(c.P nm).n=xs.length/\∃ti,E.ty e=ab ti/\(c.P nm).sz=ti.ks.length
 | .dead=>True
def ea(c:dJ)(nm:au):Obj->au->Prop
 | .box _,b=>b=(c.P nm).blk
 | .row _ ex xs,b=>((c.P nm).nil=ah/\b=(c.P nm).blk)\/(ex=ae/\∃i j,eK xs i j/\(c.G nm i j).nil=ah/\b=(c.G nm i j).blk)
 |_,_=>False
def rI(σ:St)(c:dJ)(b:au):Prop:=∃nm o,σ (cf nm)= .o o/\ea c nm o b
def gp(σ:St)(a:AV):Prop:=∀n∈bh a,σ (cf n)≠ .ie
def jU(σ:St)(v:SV):Prop:=∀n∈bO v,σ (cf n)≠ .ie
structure Ok (E:Tab) (σ:St) (w:bf) (c:dJ):Prop where
 obj:∀nm o,σ (cf nm)= .o o->mM E w c nm o
 sep:∀nm o sq o' b,σ (cf nm)= .o o->σ (cf sq)= .o o'->ea c nm o b->ea c sq o' b->nm=sq
 kk:∀nm o b,σ (cf nm)= .o o->ea c nm o b->¬c.K b
 lt:∀b,c.K b->b<w.heap.size
 kn:∀nm xs,σ (cf nm)= .o (.box xs)->∀a∈xs,gp σ a
structure dX (E:Tab) (σ:St) (a:Act) (w:bf) (c:dJ):Prop where
 ok:∀n,gu E w c (slot σ n) (a.eval (.tmp n))
 kn:∀n,jU σ (slot σ n)
 df:a.defers=[]
def gO(σ:St)(c c':dJ):Prop:=∀nm,(σ (cf nm)≠ .ie\/900000000<=nm)->c'.P nm=c.P nm/\c'.G nm=c.G nm
def nM(σ:St)(c c':dJ):Prop:=∀nm,(σ (cf nm)≠ .ie\/900000000<=nm)->c'.P nm=c.P nm/\(tO nm=ah->c'.G nm=c.G nm)
theorem gO.w{σ:St}{c c':dJ}(h:gO σ c c'):nM σ c c':=λnm hn=>⟨(h nm hn).1,λ_=>(h nm hn).2⟩
structure lE (σ:St) (c:dJ) (w:bf) (σ':St) (c':dJ) (w':bf):Prop where
 os:w'.os=w.os
 tape:w'.tape=w.tape
 output:w'.output=w.output
 size:w.heap.size<=w'.heap.size
 K:∀b,c.K b->c'.K b
 same:∀b,b<w.heap.size->¬rI σ c b->w'.heap[b]? =w.heap[b]?
 own:∀b,rI σ' c' b->rI σ c b\/w.heap.size<=b
 kn:∀b,c'.K b->c.K b\/rI σ c b\/w.heap.size<=b
theorem rI.lt{E:Tab}{σ:St}{w:bf}{c:dJ}(h:Ok E σ w c){b:au}(ho:rI σ c b):b<w.heap.size:=by
 obtain⟨nm,o,h1,h2⟩:=ho;have j4:=h.obj nm o h1;cases o with
 |box xs=>obtain⟨vals,hb,_⟩:=j4;cases h2;exact hb.lt
 |lk=>exact h2.elim
 |ej=>exact h2.elim
 |dead=>exact h2.elim
 |row e ex xs=>
  rcases h2 with ⟨hn,rfl⟩|⟨hex,i,j,⟨y,x,hy,hx,hl⟩,hn,rfl⟩
  ·obtain⟨vals,hb,_⟩:=j4.at_.mem hn;exact hb.lt
  ·by_cases hp:(c.P nm).nil=ae
   ·have:=(j4.at_.nil hp).1;subst this;simp at hy
   ·obtain⟨vals,hb,_,_,_,hc⟩:=j4.at_.mem (by simpa using hp);obtain⟨u,_,hu⟩:=hc i y j x hy hx;rw[br hex]at hu;cases x with
    |l e2 ys=>obtain⟨_,ti,_,_,_,_,hr⟩:=hu;obtain⟨v2,y_,_⟩:=hr.mem hn;exact y_.lt
    |i=>simp[p_]at hl
    |b=>simp[p_]at hl
    |s=>simp[p_]at hl
theorem Ok.Cq{E:Tab}{σ:St}{w:bf}{c:dJ}(h:Ok E σ w c){b:au}(ho:rI σ c b):¬c.K b:=by obtain⟨nm,o,h1,h2⟩:=ho;exact h.kk nm o b h1 h2
theorem lE.refl(σ:St)(c:dJ)(w:bf):lE σ c w σ c w:=
 ⟨rfl,rfl,rfl,cD _,λ_ h=>h,λ_ _ _=>rfl,λ_ h=> .inl h,λ_ h=> .inl h⟩
theorem lE.trans{σ σ1 σ2:St}{c c1 c2:dJ}{w w1 w2:bf}(h:lE σ c w σ1 c1 w1)(k:lE σ1 c1 w1 σ2 c2 w2):lE σ c w σ2 c2 w2 where
 os:=k.os.trans h.os
 tape:=k.tape.trans h.tape
 output:=k.output.trans h.output
 size:=c5 h.size k.size
 K b hb:=k.K b (h.K b hb)
 same b hb hn:=(k.same b (gF hb h.size) (λho=>(h.own b ho).elim hn (λh=>by omega))).trans (h.same b hb hn)
 own b hb:=(k.own b hb).elim (h.own b) (λh1=> .inr (c5 h.size h1))
 kn b hb:=by
  rcases k.kn b hb with h1|h1|h1
  ·exact h.kn b h1
  ·exact .inr (h.own b h1)
  ·exact .inr (.inr (c5 h.size h1))
theorem lE.Ph{E:Tab}{σ σ':St}{c c':dJ}{w w':bf}(bI:Ok E σ w c)(h:lE σ c w σ' c' w'):∀b,c.K b->w'.heap[b]? =w.heap[b]? :=
 λb hb=>h.same b (bI.lt b hb) (λho=>bI.Cq ho hb)
theorem FB.frame{E:Tab}{w w':bf}{K K':au->Prop}{b:au}{cs:ak CV}(h:FB E w K b cs)(hw:∀b,K b->w'.heap[b]? =w.heap[b]?)(hK:∀b,K b->K' b):FB E w' K' b cs:=
 ⟨hK b h.1,λq x hq=>by
  obtain⟨u,hu,hh⟩:=h.2 q x hq;exact⟨u,(qo (a:=ad b q) (hw b h.1)).trans hu,hh.frame hw hK⟩⟩
theorem dz.mg{E:Tab}{w w':bf}{c c':dJ}{a:AV}{v:aR}(h:dz E w c a v)(hw:∀b,c.K b->w'.heap[b]? =w.heap[b]?)(hK:∀b,c.K b->c'.K b)
  (hP:∀n∈bh a,c'.P n=c.P n/\(tO n=ah->c'.G n=c.G n)):dz E w' c' a v:=by
 cases a with
 |i=>exact h
 |b=>exact h
 |s=>exact h
 |nl=>exact h
 |sh e xs=>exact ch.frame h hw hK
 |own n=>have:=hP n (by simp[bh]);simp only[dz,this.1]at h⊢;exact h
 |vw n lo hi=>have:=hP n (by simp[bh]);simp only[dz,this.1]at h⊢;exact h
 |bp n j=>have:=hP n (by simp[bh]);simp only[dz,this.1]at h⊢;exact h
 |rp n i j=>have:=hP n (by simp[bh]);simp only[dz,this.1]at h⊢;exact h
 |inn n i j=>have h0:=hP n (by simp[bh]);have this:=h0.2 h.2;simp only[dz,h0.1,this]at h⊢;exact h
 |ip n i j i2 j2=>have h0:=hP n (by simp[bh]);have this:=h0.2 h.2;simp only[dz,h0.1,this]at h⊢;exact h
 |sp e xs i j=>obtain⟨b,o,cp,ti,h1,h2,h3,h4⟩:=h;exact⟨b,o,cp,ti,h1.frame hw hK,h2,h3,h4⟩
 |fn f fV=>obtain⟨ps,h1,h2,h3⟩:=h;exact⟨ps,h1,h2,λq cs hq=>by obtain⟨b,hb,hf⟩:=h3 q cs hq;exact⟨b,hb,hf.frame hw hK⟩⟩
 |fp cs j=>obtain⟨b,h1,h2⟩:=h;exact⟨b,h1,h2.frame hw hK⟩
theorem m9.mg{E:Tab}{w w':bf}{c c':dJ}{agg:aL}{xs:ak AV}{v:aR}(h:m9 E w c agg xs v)(hw:∀b,c.K b->w'.heap[b]? =w.heap[b]?)(hK:∀b,c.K b->c'.K b)
  (hP:∀n∈xs.flatMap bh,c'.P n=c.P n/\(tO n=ah->c'.G n=c.G n)):m9 E w' c' agg xs v:=by
 unfold m9 at h⊢;split at h
 ·rename_i a;exact dz.mg h hw hK (λn hn=>hP n (by simpa using hn))
 ·obtain⟨vals,h1,h2,h3⟩:=h;refine⟨vals,h1,h2,λj a hj=> ?_⟩
  obtain⟨u,hu,hv⟩:=h3 j a hj;exact⟨u,hu,hv.mg hw hK (λn hn=>hP n (bg.2 ⟨a,aD hj,hn⟩))⟩
 ·exact h.elim
theorem gu.mg{E:Tab}{w w':bf}{c c':dJ}{s:SV}{v:aR}(h:gu E w c s v)(hw:∀b,c.K b->w'.heap[b]? =w.heap[b]?)(hK:∀b,c.K b->c'.K b)
  (hP:∀n∈bO s,c'.P n=c.P n/\(tO n=ah->c'.G n=c.G n)):gu E w' c' s v:=by
 cases s with
 |un=>trivial
 |v agg xs=>exact m9.mg h hw hK hP
 |gM l=>
  obtain⟨vs,h1,h2,h3⟩:=h;refine⟨vs,h1,h2,λj agg xs hj=> ?_⟩
  obtain⟨u,hu,hv⟩:=h3 j agg xs hj;exact⟨u,hu,hv.mg hw hK (λn hn=>hP n (bg.2 ⟨(agg,xs),aD hj,hn⟩))⟩
theorem dz.frame{E:Tab}{w w':bf}{c c':dJ}{a:AV}{v:aR}(h:dz E w c a v)(hw:∀b,c.K b->w'.heap[b]? =w.heap[b]?)(hK:∀b,c.K b->c'.K b)
  (hP:∀n∈bh a,c'.P n=c.P n/\c'.G n=c.G n):dz E w' c' a v:=h.mg hw hK (λn hn=>⟨(hP n hn).1,λ_=>(hP n hn).2⟩)
theorem m9.frame{E:Tab}{w w':bf}{c c':dJ}{agg:aL}{xs:ak AV}{v:aR}(h:m9 E w c agg xs v)(hw:∀b,c.K b->w'.heap[b]? =w.heap[b]?)(hK:∀b,c.K b->c'.K b)
  (hP:∀n∈xs.flatMap bh,c'.P n=c.P n/\c'.G n=c.G n):m9 E w' c' agg xs v:=h.mg hw hK (λn hn=>⟨(hP n hn).1,λ_=>(hP n hn).2⟩)
theorem gu.frame{E:Tab}{w w':bf}{c c':dJ}{s:SV}{v:aR}(h:gu E w c s v)(hw:∀b,c.K b->w'.heap[b]? =w.heap[b]?)(hK:∀b,c.K b->c'.K b)
  (hP:∀n∈bO s,c'.P n=c.P n/\c'.G n=c.G n):gu E w' c' s v:=h.mg hw hK (λn hn=>⟨(hP n hn).1,λ_=>(hP n hn).2⟩)
theorem gq.frame{w w':bf}{p:Pl}{xs:aY}{R R':au->au->aR->CV->Prop}(h:gq w p xs R)(hw:p.nil=ah->w'.heap[p.blk]? =w.heap[p.blk]?)
  (hR:∀i j y x u,xs[i]? =ab y->y[j]? =ab x->R i j u x->R' i j u x):gq w' p xs R' where
 n:=h.n
 nil:=h.nil
 mem hn:=by
  obtain⟨vals,h1,h2,h3,h4,h5⟩:=h.mem hn;refine⟨vals,h1.frame (hw hn),h2,h3,h4,λi y j x hi hj=> ?_⟩
  obtain⟨u,hu,hr⟩:=h5 i y j x hi hj;exact⟨u,hu,hR i j y x u hi hj hr⟩
theorem XC.frame{E:Tab}{w w':bf}{G:au->au->Pl}{i j:au}{u:aR}{x:CV}(h:XC E w G i j u x)(hw:p_ x=ae->(G i j).nil=ah->w'.heap[(G i j).blk]? =w.heap[(G i j).blk]?):XC E w' G i j u x:=by
 cases x with
 |l e ys=>obtain⟨h1,ti,h2,h3,h4,h5,h6⟩:=h;exact⟨h1,ti,h2,h3,h4,h5,h6.frame (hw rfl) (λ_ _ _ _ _ _ _ h=>h)⟩
 |i=>exact h
 |b=>exact h
 |s=>exact h
theorem mM.frame{E:Tab}{w w':bf}{c c':dJ}{nm:au}{o:Obj}(h:mM E w c nm o)(hw:∀b,c.K b->w'.heap[b]? =w.heap[b]?)(hK:∀b,c.K b->c'.K b)
  (hf:∀b,ea c nm o b->w'.heap[b]? =w.heap[b]?) (hP:c'.P nm=c.P nm/\c'.G nm=c.G nm)
  (hPs:∀xs,o= .box xs->∀a∈xs,∀n∈bh a,c'.P n=c.P n/\(tO n=ah->c'.G n=c.G n)):mM E w' c' nm o:=by
 cases o with
 |dead=>trivial
 |box xs=>
  obtain⟨vals,h1,h2,h3⟩:=h;refine⟨vals, ?_,h2,λj a hj=> ?_⟩
  ·rw[hP.1];exact h1.frame (hf _ rfl)
  ·obtain⟨u,hu,hv⟩:=h3 j a hj;exact⟨u,hu,hv.mg hw hK (hPs xs rfl a (aD hj))⟩
 |lk cs=>show FB E w' c'.K (c'.P nm).blk cs;rw[hP.1];exact FB.frame h hw hK
 |ej e xs=>
  obtain⟨h1,h2,h3⟩:=h;refine⟨?_, ?_, ?_⟩
  ·rw[hP.1];exact h1.frame hw hK
  ·rw[hP.1];exact h2
  ·rw[hP.1];exact h3
 |row e ex xs=>
  obtain⟨h1,h2,h3⟩:=h;refine⟨by rw[hP.1];exact h1, ?_,by rw[hP.1,hP.2];exact h3⟩
  rw[hP.1,hP.2];refine h2.frame (λhn=>hf _ (.inl ⟨hn,rfl⟩)) (λi j y x u hi hj hr=> ?_);by_cases hx:ex=ae
  ·rw[br hx]at hr⊢;exact hr.frame (λhl hn=>hf _ (.inr ⟨hx,i,j,⟨y,x,hi,hj,hl⟩,hn,rfl⟩))
  ·rw[bF hx]at hr⊢;exact hr.frame hw hK
end Go.FG

namespace Go.FG
theorem pN(s:St)(k:au)(c:dF):mK s k c k=c:=by simp[mK]
theorem ug(s:St){k n:au}(c:dF)(h:n≠k):mK s k c n=s n:=by
 have:a_ n k=false:=by
  cases hb:a_ n k with
  |false=>rfl
  |true=>exact bS (aJ hb) h
 simp[mK,this]
theorem oz(n m:au):nh n≠cf m:=by unfold nh cf;omega
theorem jG(n m:au):cf n≠nh m:=by unfold nh cf;omega
theorem A0{n m:au}(h:nh n=nh m):n=m:=by unfold nh at h;omega
theorem ic{n m:au}(h:cf n=cf m):n=m:=by unfold cf at h;omega
theorem CT(s:St)(d:au)(c:dF)(m:au):mK s (nh d) c (cf m)=s (cf m):=ug s c (jG m d)
theorem mX(s:St)(n:au)(c:dF)(m:au):mK s (cf n) c (cf m)=if m=n then c else s (cf m):=by
 by_cases h:m=n
 ·subst h;simp[pN]
 ·rw[bF h];exact ug s c (λe=>h (ic e))
theorem gv(s:St)(n:au)(c:dF)(m:au):slot (mK s (cf n) c) m=slot s m:=by unfold slot;rw[ug s c (oz m n)]
theorem sK(s:St)(d:au)(v:SV)(m:au):slot (mK s (nh d) (.v v)) m=if m=d then v else slot s m:=by
 by_cases h:m=d
 ·subst h;simp[slot,pN]
 ·rw[bF h];unfold slot;rw[ug s _ (λe=>h (A0 e))]
theorem HM(s:St)(l r:ak (au×dF)):wr s (l++r)=wr (wr s l) r:=by
 induction l generalizing s with
 |nil=>rfl
 |cons a l ih=>obtain⟨k,c⟩:=a;exact ih _
def Rd.val{α:Type}(m:Rd α)(σ:St):ar α:=(m.run σ []).map (·.1)
theorem iT{α:Type}(m:Rd α)(σ:St):∀l,(m.run σ l).map (·.1)=m.val σ:=by
 induction m with
 |ret a=>intro l;rfl
 |fail=>intro l;rfl
 |get k f ih=>intro l;simp only[Rd.run,Rd.val];rw[ih,ih]
theorem Rd.EB{α:Type}{m:Rd α}{σ:St}{l l':ak au}{a:α}(h:m.run σ l=ab (a,l')):m.val σ=ab a:=by rw[<-iT m σ l,h];rfl
@[simp] theorem Rd.Zx {α:Type} (a:α) (σ:St):(Rd.ret a).val σ=some a:=rfl
@[simp] theorem Rd.YK {α:Type} (σ:St):(Rd.fail:Rd α).val σ=none:=rfl
@[simp] theorem Rd.vL {α:Type} (k:Nat) (f:dF->Rd α) (σ:St):(Rd.get k f).val σ=(f (σ k)).val σ:=by
 simp only[Rd.val,Rd.run];exact(iT (f (σ k)) σ [k])
@[simp] theorem Rd.LR {α β:Type} (m:Rd α) (f:α->Rd β) (σ:St):(m.bind f).val σ=(m.val σ).bind λa=>(f a).val σ:=by
 induction m with
 |ret a=>rfl
 |fail=>rfl
 |get k g ih=>simp only[Rd.bind,Rd.vL];exact ih _
theorem Rd.bind_some{α β:Type}{m:Rd α}{f:α->Rd β}{σ:St}{b:β}(h:(m.bind f).val σ=ab b):∃a,m.val σ=ab a/\(f a).val σ=ab b:=by rw[Rd.LR,Option.bind_eq_some_iff]at h;exact h
theorem bQ{α:Type}{b:aL}{m:Rd α}{σ:St}{a:α}(h:(bif b then m else Rd.fail).val σ=ab a):b=ae/\m.val σ=ab a:=by
 cases b with
 |true=>exact⟨rfl,h⟩
 |false=>simp at h
def ig(Ch:au->Prop)(σ:St)(c:dJ)(b:au):Prop:=∃nm o,Ch nm/\σ (cf nm)= .o o/\ea c nm o b
theorem ig.own{Ch:au->Prop}{σ:St}{c:dJ}{b:au}(h:ig Ch σ c b):rI σ c b:=by obtain⟨nm,o,_,h1,h2⟩:=h;exact⟨nm,o,h1,h2⟩
theorem jF{c c':dJ}{nm:au}{o:Obj}(h:c'.P nm=c.P nm/\c'.G nm=c.G nm)(b:au):ea c' nm o b=ea c nm o b:=by cases o<;>simp only[ea,h.1,h.2]
theorem Ok.rV{E:Tab}{σ σ':St}{w w':bf}{c c':dJ}(h:Ok E σ w c)(Ch:au->Prop)
  (hσ:∀nm,¬Ch nm->σ' (cf nm)=σ (cf nm)) (fP:∀nm,σ (cf nm)≠ .ie->σ' (cf nm)≠ .ie) (hA:nM σ c c') (hAG:∀nm,¬Ch nm->σ (cf nm)≠ .ie->c'.G nm=c.G nm)
  (hW:∀b,b<w.heap.size->¬ig Ch σ c b->w'.heap[b]? =w.heap[b]?) (eM:w.heap.size<=w'.heap.size)
  (hK:∀b,c.K b->c'.K b) (Mk:∀b,c'.K b->c.K b\/ig Ch σ c b\/w.heap.size<=b) (Ar:∀b,c'.K b->b<w'.heap.size)
  (j4:∀nm o,Ch nm->σ' (cf nm)= .o o->mM E w' c' nm o)
  (mR:∀nm o b,Ch nm->σ' (cf nm)= .o o->ea c' nm o b->(ig Ch σ c b\/w.heap.size<=b)/\¬c'.K b)
  (Ka:∀nm o sq o' b,Ch nm->Ch sq->σ' (cf nm)= .o o->σ' (cf sq)= .o o'->ea c' nm o b->ea c' sq o' b->nm=sq)
  (B5:∀nm xs,Ch nm->σ' (cf nm)= .o (.box xs)->∀a∈xs,gp σ' a)
  (G9:w'.os=w.os) (Kb:w'.tape=w.tape) (S9:w'.output=w.output):Ok E σ' w' c'/\lE σ c w σ' c' w':=by
 have FX:∀nm o b,¬Ch nm->σ (cf nm)= .o o->ea c nm o b->¬ig Ch σ c b:=by intro nm o b hc ho hf ⟨fI,o2,hc2,ho2,hf2⟩;exact hc (h.sep nm o fI o2 b ho ho2 hf hf2▸hc2)
 have R7:∀nm o,¬Ch nm->σ' (cf nm)= .o o->σ (cf nm)= .o o/\(c'.P nm=c.P nm/\c'.G nm=c.G nm):=by intro nm o hc ho;rw[hσ nm hc]at ho;exact⟨ho,(hA nm (.inl (by rw[ho];simp))).1,hAG nm hc (by rw[ho];simp)⟩
 have WY:∀b,c.K b->w'.heap[b]? =w.heap[b]? :=λb hb=>hW b (h.lt b hb) (λhi=>h.Cq hi.own hb);have lt:∀nm o b,σ (cf nm)= .o o->ea c nm o b->b<w.heap.size:=λnm o b ho hf=>rI.lt h ⟨nm,o,ho,hf⟩;refine⟨⟨?_, ?_, ?_,Ar, ?_⟩,⟨G9,Kb,S9,eM,hK, ?_, ?_, ?_⟩⟩
 ·intro nm o ho;by_cases hc:Ch nm
  ·exact j4 nm o hc ho
  ·obtain⟨qC,ha⟩:=R7 nm o hc ho;refine(h.obj nm o qC).frame WY hK (λb hb=>hW b (lt nm o b qC hb) (FX nm o b hc qC hb)) ha ?_;intro xs hx a hm n hn;exact hA n (.inl (h.kn nm xs (hx▸qC) a hm n hn))
 ·intro nm o sq o' b ho qC hf sZ;by_cases hc:Ch nm
  ·by_cases BX:Ch sq
   ·exact Ka nm o sq o' b hc BX ho qC hf sZ
   ·obtain⟨h1,ha⟩:=R7 sq o' BX qC;rw[jF ha]at sZ;rcases(mR nm o b hc ho hf).1 with hi|hi
    ·exact bS hi (FX sq o' b BX h1 sZ)
    ·have:=lt sq o' b h1 sZ;omega
  ·obtain⟨h1,ha⟩:=R7 nm o hc ho;rw[jF ha]at hf;by_cases BX:Ch sq
   ·rcases(mR sq o' b BX qC sZ).1 with hi|hi
    ·exact bS hi (FX nm o b hc h1 hf)
    ·have:=lt nm o b h1 hf;omega
   ·obtain⟨h2,Za⟩:=R7 sq o' BX qC;rw[jF Za]at sZ;exact h.sep nm o sq o' b h1 h2 hf sZ
 ·intro nm o b ho hf;by_cases hc:Ch nm
  ·exact(mR nm o b hc ho hf).2
  ·obtain⟨h1,ha⟩:=R7 nm o hc ho;rw[jF ha]at hf;intro hk;rcases Mk b hk with h2|h2|h2
   ·exact h.kk nm o b h1 hf h2
   ·exact FX nm o b hc h1 hf h2
   ·have:=lt nm o b h1 hf;omega
 ·intro nm xs ho a hm;by_cases hc:Ch nm
  ·exact B5 nm xs hc ho a hm
  ·obtain⟨h1,_⟩:=R7 nm _ hc ho;intro n hn;exact fP n (h.kn nm xs h1 a hm n hn)
 ·intro b hb hn;exact hW b hb (λhi=>hn hi.own)
 ·rintro b ⟨nm,o,ho,hf⟩;by_cases hc:Ch nm
  ·exact(mR nm o b hc ho hf).1.imp ig.own id
  ·obtain⟨h1,ha⟩:=R7 nm o hc ho;rw[jF ha]at hf;exact .inl ⟨nm,o,h1,hf⟩
 ·intro b hb;rcases Mk b hb with h2|h2|h2
  ·exact .inl h2
  ·exact .inr (.inl h2.own)
  ·exact .inr (.inr h2)
theorem Ok.change{E:Tab}{σ σ':St}{w w':bf}{c c':dJ}(h:Ok E σ w c)(Ch:au->Prop)
  (hσ:∀nm,¬Ch nm->σ' (cf nm)=σ (cf nm)) (fP:∀nm,σ (cf nm)≠ .ie->σ' (cf nm)≠ .ie) (hA:gO σ c c')
  (hW:∀b,b<w.heap.size->¬ig Ch σ c b->w'.heap[b]? =w.heap[b]?) (eM:w.heap.size<=w'.heap.size)
  (hK:∀b,c.K b->c'.K b) (Mk:∀b,c'.K b->c.K b\/ig Ch σ c b\/w.heap.size<=b) (Ar:∀b,c'.K b->b<w'.heap.size)
  (j4:∀nm o,Ch nm->σ' (cf nm)= .o o->mM E w' c' nm o)
  (mR:∀nm o b,Ch nm->σ' (cf nm)= .o o->ea c' nm o b->(ig Ch σ c b\/w.heap.size<=b)/\¬c'.K b)
  (Ka:∀nm o sq o' b,Ch nm->Ch sq->σ' (cf nm)= .o o->σ' (cf sq)= .o o'->ea c' nm o b->ea c' sq o' b->nm=sq)
  (B5:∀nm xs,Ch nm->σ' (cf nm)= .o (.box xs)->∀a∈xs,gp σ' a)
  (G9:w'.os=w.os) (Kb:w'.tape=w.tape) (S9:w'.output=w.output):Ok E σ' w' c'/\lE σ c w σ' c' w':=
 h.rV Ch hσ fP hA.w (λnm _ hn=>(hA nm (.inl hn)).2) hW eM hK Mk Ar j4 mR Ka B5 G9 Kb S9
theorem Ok.slot{E:Tab}{σ σ':St}{w:bf}{c:dJ}(h:Ok E σ w c)(hσ:∀nm,σ' (cf nm)=σ (cf nm)):Ok E σ' w c/\lE σ c w σ' c w:=by
 refine⟨⟨λnm o ho=>h.obj nm o (hσ nm▸ho),λnm o sq o' b h1 h2=>h.sep nm o sq o' b (hσ nm▸h1) (hσ sq▸h2),λnm o b h1=>h.kk nm o b (hσ nm▸h1),h.lt,λnm xs ho a hm n hn=>by rw[hσ];exact h.kn nm xs (hσ nm▸ho) a hm n hn⟩,
  ⟨rfl,rfl,rfl,cD _,λ_ h=>h,λ_ _ _=>rfl,λb ⟨nm,o,ho,hf⟩=> .inl ⟨nm,o,hσ nm▸ho,hf⟩,λ_ h=> .inl h⟩⟩
theorem yf(a:Act)(d:au)(v:aR)(h:d<a.tmps.size):(a.put (ab d) v).eval (.tmp d)=v:=by simp[L8,Bn,h]
theorem BN(a:Act)(d n:au)(v:aR)(h:n≠d):(a.put (ab d) v).eval (.tmp n)=a.eval (.tmp n):=by simp only[L8,Bn,dD,ly];rw[bF (λe=>h e.symm)]
theorem dX.rV{E:Tab}{σ σ':St}{a:Act}{w w':bf}{c c':dJ}(h:dX E σ a w c)(bI:Ok E σ w c)(hG:lE σ c w σ' c' w')(hA:nM σ c c')(fP:∀nm,σ (cf nm)≠ .ie->σ' (cf nm)≠ .ie)
  (o:dU) (v:aR) (hs:∀n,o.dst≠ab n->slot σ' n=slot σ n) (hd:∀d,o.dst=ab d->d<a.tmps.size/\gu E w' c' (slot σ' d) v/\jU σ' (slot σ' d)):dX E σ' (a.put o.dst v) w' c':=by
 have keep:∀n,gu E w' c' (slot σ n) (a.eval (.tmp n)):=λn=>(h.ok n).mg (hG.Ph bI) hG.K (λm hm=>hA m (.inl (h.kn n m hm)));have Qr:∀n,jU σ' (slot σ n):=λn m hm=>fP m (h.kn n m hm);cases ho:o.dst with
 |none=>
  refine⟨λn=> ?_,λn=> ?_,h.df⟩
  ·rw[hs n (by simp[ho])];exact keep n
  ·rw[hs n (by simp[ho])];exact Qr n
 |some d=>
  obtain⟨h1,h2,h3⟩:=hd d ho;refine⟨λn=> ?_,λn=> ?_,h.df⟩
  ·by_cases hn:n=d
   ·subst hn;rw[yf a n v h1];exact h2
   ·rw[BN a d n v hn,hs n (by rw[ho];simpa using λe=>hn e.symm)];exact keep n
  ·by_cases hn:n=d
   ·subst hn;exact h3
   ·rw[hs n (by rw[ho];simpa using λe=>hn e.symm)];exact Qr n
theorem dX.change{E:Tab}{σ σ':St}{a:Act}{w w':bf}{c c':dJ}(h:dX E σ a w c)(bI:Ok E σ w c)(hG:lE σ c w σ' c' w')(hA:gO σ c c')(fP:∀nm,σ (cf nm)≠ .ie->σ' (cf nm)≠ .ie)
  (o:dU) (v:aR) (hs:∀n,o.dst≠ab n->slot σ' n=slot σ n) (hd:∀d,o.dst=ab d->d<a.tmps.size/\gu E w' c' (slot σ' d) v/\jU σ' (slot σ' d)):dX E σ' (a.put o.dst v) w' c':=
 h.rV bI hG hA.w fP o v hs hd
theorem oA(σ:St)(o:dU)(v:SV):(∀n,o.dst≠ab n->slot (wr σ (dw o v)) n=slot σ n)/\(∀d,o.dst=ab d->slot (wr σ (dw o v)) d=v)/\∀nm,wr σ (dw o v) (cf nm)=σ (cf nm):=by
 cases ho:o.dst with
 |none=>simp[dw,ho,wr]
 |some d=>
  refine⟨λn hn=> ?_,λd' hd=> ?_,λnm=> ?_⟩
  ·simp only[dw,ho,wr];rw[sK,bF (by rintro rfl;exact hn rfl)]
  ·cases hd;simp only[dw,ho,wr];rw[sK,br rfl]
  ·simp only[dw,ho,wr];exact CT _ _ _ _
end Go.FG

namespace Go.FG
def fL:Ck->aR
 | .i k=> .int k 0| .b=> .bool ah| .s=> .string ⟨#[]⟩| .l _=> .slice af 0 0| .o=> .nilIface
def jq:AV->aR
 | .i k n=> .int k n| .b x=> .bool x| .s x=> .string x|_=> .nilIface
structure dv (P:b9) (E:Tab):Prop where
 info:∀t ti,E.ty t=ab ti->∃inf,P.info? t=ab inf/\inf.size=ti.ks.length/\inf.bytes=ti.bytes/\0<ti.ks.length/\
  (D9 ti.ks=ae->∃z,inf.zero=ab z/\z.cells=(ti.ks.map fL).toArray/\(ti.agg=ae->z= .agg (ti.ks.map fL).toArray))
 desc:∀t ti,E.ty t=ab ti->∃d,P.underlying t=ab d/\
  (ti.agg=ae->∃fs,d= .struct fs/\∀f o n,E.fo t f=ab (o,n)->∃fd,fs[f]? =ab fd/\fd.offset=o/\(P.info? fd.type).map (·.size)=ab n/\n≠0/\o+n<=ti.ks.length)/\
  (ti.agg=ah->(∃k,ti.ks=[.i k]/\d= .int k)\/(ti.ks=[.b]/\d= .bool)\/(ti.ks=[.s]/\d= .string)\/(∃e,ti.ks=[.l e]/\d= .slice e)\/
   (ti.ks=[.o]/\(match d with| .struct _| .array _ _=>ah|_=>ae)=ae))
 fo:∀t f o n,E.fo t f=ab (o,n)->∃ti,E.ty t=ab ti/\ti.agg=ae
 pl:∀t ti,E.ty t=ab ti->ti.agg=ae->∀fs,P.underlying t=ab (.struct fs)->∃pl,fs.toList.mapM (λf=>(P.info? f.type).map λi=>(f.offset,i.size))=ab pl/\∀f o n,E.fo t f=ab (o,n)->pl[f]? =ab (o,n)
 eq:∀t ti,jO t E.eqs=ae->E.ty t=ab ti->∀(w:bf) (x y:cL) (xs ys:ak AV) (r:aL),Nh xs ys=ab r->xs.map Ay=ti.ks->ys.map Ay=ti.ks->
  (do eqGuard .eql t x y (.agg (xs.map jq).toArray) (.agg (ys.map jq).toArray);binOp .eql t (.agg (xs.map jq).toArray) (.agg (ys.map jq).toArray)).run P w= .ok (.bool r) w/\
  (do eqGuard .neq t x y (.agg (xs.map jq).toArray) (.agg (ys.map jq).toArray);binOp .neq t (.agg (xs.map jq).toArray) (.agg (ys.map jq).toArray)).run P w= .ok (.bool !r) w
 fl:∀t f,E.JP t f=ae->∀fs fd,P.underlying t=ab (.struct fs)->fs[f]? =ab fd->∀w,(Go.isAgg fd.type).run P w= .ok ah w
theorem yP{v:aR}(h:v.oneCell'=ae):v.cells= #[v]:=by cases v<;>simp_all [Value.cells,Value.oneCell']
theorem dz.one{E:Tab}{w:bf}{c:dJ}{a:AV}{v:aR}(h:dz E w c a v):v.oneCell'=true:=by
 cases a with
 |i=>cases h;rfl
 |b=>cases h;rfl
 |s=>cases h.1;rfl
 |nl=>cases h;rfl
 |sh e xs=>cases h<;>rfl
 |own n=>cases h;unfold jj;split<;>rfl
 |vw n lo hi=>
  obtain⟨_,_,h1,h2⟩:=h;by_cases hn:(c.P n).nil=ae
  ·rw[h1 hn];rfl
  ·rcases h2 (by simpa using hn)with ⟨_,h⟩|⟨_,o,_,h⟩<;>rw[h]<;>rfl
 |bp n j=>cases h;rfl
 |rp n i j=>rw[h.2];rfl
 |sp e xs i j=>obtain⟨_,_,_,_,_,_,_,h⟩:=h;rw[h];rfl
 |inn n i j=>rw[h.1.2];unfold jj;split<;>rfl
 |ip n i j i2 j2=>rw[h.1.2.2];rfl
 |fn f fV=>obtain⟨ps,h,_⟩:=h;rw[h];rfl
 |fp cs j=>obtain⟨b,h,_⟩:=h;rw[h];rfl
section
variable {P:b9} (w:bf)
theorem Addr.ld(b o i:au):(ad b o).add i=ad b (o+i):=by unfold Ry ad;split<;>simp_all
theorem yr(b o:au):∀(vs:ak aR) (i:au) (w:bf) (cur:cG aR),k8 w b cur->o+i+vs.length<=cur.size->(∀v∈vs,v.oneCell'=ae)->
  (storeCells (ad b o) vs i).run P w= .ok () (w.setRow b (cur.toList.take (o+i)++vs++cur.toList.drop (o+i+vs.length)).toArray):=by
 intro vs;induction vs with
 |nil=>intro i w cur hb _ _;obtain⟨t,fr,hg,hf⟩:=hb;simp only[storeCells,da,gX,tn,List.take_append_drop,pR];rw[setRow_self w b cur t fr hg];rfl
 |cons v rest ih=>
  intro i w cur hb hl h1;have hi:o+i<cur.size:=by simp at hl;omega
  have abD:=hb.free hi;obtain⟨t,fr,hg,hf⟩:=hb;have hcell:w.cell? (ad b (o+i))=ab cur[o+i]:=by simp[Vj,hg,hi]
  have DW:(store ((ad b o).add i) v).run P w= .ok () (w.setRow b (cur.setIfInBounds (o+i) v)):=by rw[Addr.ld,run_store P w _ v _ (h1 v (by simp)),hcell];simp[abD,setCell_eq_setRow w b (o+i) cur t fr v hg]
  have H_:k8 (w.setRow b (cur.setIfInBounds (o+i) v)) b (cur.setIfInBounds (o+i) v):=⟨t,fr,setRow_heap w b cur _ t fr hg,by simpa using hf⟩
  have ih':=ih (i+1) (w.setRow b (cur.setIfInBounds (o+i) v)) (cur.setIfInBounds (o+i) v) H_ (by simp at hl⊢;omega) (λx hx=>h1 x (by simp[hx]));simp only[storeCells,bJ,DW,ba,ih',setRow_setRow];congr 3;have e:=list_seg_step cur.toList (o+i) v rest (by simp at hl⊢;omega);simpa [Array.toList_setIfInBounds,ju]using e
def dq(cur:cG aR)(o:au)(vs:ak aR):cG aR:=(cur.toList.take o++vs++cur.toList.drop (o+vs.length)).toArray
theorem dL{cur:cG aR}{o:au}{vs:ak aR}(h:o+vs.length<=cur.size):(dq cur o vs).size=cur.size:=by simp[dq];omega
theorem eL{cur:cG aR}{o:au}{vs:ak aR}(h:o+vs.length<=cur.size)(k:au):
  (dq cur o vs)[k]? =if o<=k/\k<o+vs.length then vs[k-o]? else cur[k]? :=by
 simp only[dq,fm];by_cases h1:k<o
 ·rw[bF (by omega),bR,cS (by simp;omega),dj,br h1];simp
 ·by_cases h2:k<o+vs.length
  ·rw[br ⟨by omega,h2⟩,bR,cm (by simp;omega),cS (by simp;omega)];congr 1;simp;omega
  ·rw[bF (by omega),bR,cm (by simp;omega),cm (by simp;omega),c7];simp only[bY];congr 1;simp;omega
theorem kM{b o:au}{vs:ak aR}{cur:cG aR}(hb:k8 w b cur)(hl:o+vs.length<=cur.size)(h1:∀v∈vs,v.oneCell'=ae):
  (storeCells (ad b o) vs).run P w= .ok () (w.setRow b (dq cur o vs)):=by have:=yr (P:=P) b o vs 0 w cur hb (by simpa using hl) h1;simpa [dq]using this
theorem k8.setRow{w:bf}{b:au}{cur new:cG aR}(h:k8 w b cur)(hs:new.size=cur.size):k8 (w.setRow b new) b new:=by obtain⟨t,fr,hg,hf⟩:=h;exact⟨t,fr,setRow_heap w b cur new t fr hg,by rw[hs];exact hf⟩
theorem k8.alloc(w:bf)(cs:cG aR)(t:TypeId):k8 (w.alloc (.cells cs t)) w.heap.size cs:=
 ⟨t,(0,0),heap_alloc_new w _,λo _=>by simp⟩
theorem sF{b o:au}{cs:ak aR}(h:∀j v,cs[j]? =ab v->w.cell? (ad b (o+j))=ab v):(loadCells (ad b o) cs.length).run P w= .ok cs.toArray w:=
 run_loadCells_list w (ad b o) cs (λj v hj=>by rw[Addr.ld];exact h j v hj)
theorem xH{E:Tab}(hE:dv P E){t:au}{ti:TI}(ht:E.ty t=ab ti){b o:au}{cs:ak aR}(hl:cs.length=ti.ks.length)(h:∀j v,cs[j]? =ab v->w.cell? (ad b (o+j))=ab v):
  (td t (.pointer (ab (ad b o)))).run P w= .ok (if ti.agg=ae then .agg cs.toArray else cs.headD .nilIface) w:=by
 obtain⟨inf,hi,eM,_,iP,_⟩:=hE.info t ti ht;obtain⟨d,hd,ha,hn⟩:=hE.desc t ti ht;cases p8:ti.agg with
 |true=>obtain⟨fs,rfl,_⟩:=ha p8;have hr:=sF (P:=P) w (b:=b) (o:=o) h;simp only[td,qn,loadVar,isAgg,bJ,run_underlying hd,bV,ba,if_true,sizeOf,typeInfo,program,kj,hi,eM,<-hl,hr]
 |false=>
  have sd:∃k,ti.ks=[k]:=by rcases hn p8 with ⟨k,h,_⟩|⟨h,_⟩|⟨h,_⟩|⟨e,h,_⟩|⟨h,_⟩<;>exact⟨_,h⟩
  obtain⟨k,hk⟩:=sd;rw[hk]at hl;obtain⟨v,rfl⟩:=e8.1 hl;have hc:=h 0 v rfl;simp only[tn]at hc;have ai2:(match d with| .struct _| .array _ _=>ae|_=>ah)=false:=by
   rcases hn p8 with ⟨k,_,rfl⟩|⟨_,rfl⟩|⟨_,rfl⟩|⟨e,_,rfl⟩|⟨_,h⟩
   ·rfl
   ·rfl
   ·rfl
   ·rfl
   ·cases d<;>simp_all
  have abn:(isAgg t).run P w= .ok ah w:=by simp only[isAgg,bJ,run_underlying hd,ba];cases d<;>simp_all
  simp only[td,qn,loadVar,bJ,bV,ba,abn,cJ,if_false,run_load,hc,List.headD]
theorem CF{E:Tab}(hE:dv P E){t:au}{ti:TI}(ht:E.ty t=ab ti){b o:au}{v:aR}{cur:cG aR}(hl:v.cells.size=ti.ks.length)(hb:k8 w b cur)(hf:o+v.cells.size<=cur.size)(h1:∀u∈v.cells.toList,u.oneCell'=ae):
  (ME t (.pointer (ab (ad b o))) v).run P w= .ok () (w.setRow b (dq cur o v.cells.toList)):=by obtain⟨inf,hi,eM,_⟩:=hE.info t ti ht;have hr:=kM (P:=P) w hb (o:=o) (vs:=v.cells.toList) (by simpa using hf) h1;simp only[ME,qn,storeVar,bJ,bV,ba,sizeOf,typeInfo,program,kj,hi,eM,hl,ne_eq,not_true_eq_false,if_false,hr]
theorem HC{E:Tab}(hE:dv P E){t:au}{ti:TI}(ht:E.ty t=ab ti)(ho:D9 ti.ks=ae):
  (Rz t ae (.tuple #[])).run P w= .ok (.pointer (ab (ad w.heap.size 0))) (w.alloc (.cells (ti.ks.map fL).toArray t)):=by obtain⟨inf,hi,eM,_,_,hz⟩:=hE.info t ti ht;obtain⟨z,C1,yo,_⟩:=hz ho;simp only[Rz,bJ,zeroValue,typeInfo,program,kj,hi,ba,bV,C1,newVar,newRow,newObj,yo];rfl
theorem Ld(t:au)(v:aR):(Vh t v).run P w= .ok (.pointer (ab (ad w.heap.size 0))) (w.alloc (.cells v.cells t)):=by simp only[Vh,bJ,newVar,newRow,newObj,kj,ba,bV];rfl
theorem CB{E:Tab}(hE:dv P E){t f off n:au}(hf:E.fo t f=ab (off,n))(b o:au):
  (MC t (.pointer (ab (ad b o))) f).run P w= .ok (.pointer (ab (ad b (o+off)))) w:=by
 obtain⟨ti,ht,p8⟩:=hE.fo t f off n hf;obtain⟨d,hd,ha,_⟩:=hE.desc t ti ht;obtain⟨fs,rfl,Mo⟩:=ha p8;obtain⟨fd,h1,h2,h3,h4,_⟩:=Mo f off n hf;cases hq:P.info? fd.type with
 |none=>simp[hq]at h3
 |some inf=>
  have hs:inf.size=n:=by simpa [hq]using h3
  have fP:¬inf.size=0:=by omega
  simp only[MC,bJ,run_underlying hd,ba,h1,qn,bV,fieldPlace,sizeOf,typeInfo,program,kj,hq,bF fP,kc,Addr.ld,h2]
theorem me{E:Tab}(hE:dv P E){t e:au}{ti:TI}(ht:E.ty t=ab ti)(p8:ti.agg=ah)(hk:ti.ks=[.l e]):P.underlying t=ab (.slice e):=by obtain⟨d,hd,_,hn⟩:=hE.desc t ti ht;rcases hn p8 with ⟨k,h,_⟩|⟨h,_⟩|⟨h,_⟩|⟨e',h,rfl⟩|⟨h,_⟩<;>rw[hk]at h<;>simp_all
theorem CC{E:Tab}(hE:dv P E){t e:au}{te:TI}(hu:P.underlying t=ab (.slice e))(he:E.ty e=ab te)(b o n c:au)(k:ki)(i:ax)(h0:0<=i)(h1:i<n):
  (MD t (.slice (ab (ad b o)) n c) (.int k i)).run P w= .ok (.pointer (ab (ad b (o+i.toNat*te.ks.length)))) w:=by obtain⟨inf,hi,eM,_⟩:=hE.info e te he;simp only[MD,asIntOf,bJ,bV,ba,run_underlying hu,h0,h1,and_self,if_true,sizeOf,typeInfo,program,kj,hi,eM,Addr.ld]
end
end Go.FG

namespace Go.FG
section
variable {P:b9} {E:eh} {σ:St} {a:Act} {w:bf} {c:dJ}
theorem jH(cU:dX E σ a w c){x:cL}{v:SV}(h:(AM x).val σ=ab v):gu E w c v (a.eval x)/\jU σ v:=by
 cases x with
 |tmp t=>
  simp only[AM,Rd.vL]at h;cases hc:σ (nh t)with
  |v x=>rw[hc]at h;obtain rfl:=aq h;have h1:=cU.ok t;have h2:=cU.kn t;simp only[slot,hc]at h1 h2;exact⟨h1,h2⟩
  |o x=>rw[hc]at h;simp at h;subst h;exact⟨trivial,λn hn=>by simp[bO]at hn⟩
  |ie=>rw[hc]at h;simp at h;subst h;exact⟨trivial,λn hn=>by simp[bO]at hn⟩
 |const v'=>
  obtain rfl:=aq h;refine⟨?_, ?_⟩
  ·show gu E w c (Y3 v') v';unfold Y3;split;case h_3 x=>
    cases hd:dZ x.size 4611686018427387904 with
    |true=>exact⟨rfl,bN hd⟩
    |false=>exact trivial
   all_goals first|trivial|rfl
  ·unfold Y3;intro n hn;split at hn;case h_3 x=>
    cases hd:dZ x.size 4611686018427387904 with
    |true=>simp[hd,bO,bh]at hn
    |false=>simp[hd,bO]at hn
   all_goals simp[bO,bh]at hn
 |global g=>simp[AM]at h
 |func f=>obtain rfl:=aq h;exact⟨⟨#[],rfl,rfl,λq cs hq=>by simp at hq⟩,λn hn=>by simp[bO,bh]at hn⟩
theorem gd(cU:dX E σ a w c){x:cL}{v:AV}(h:(oq x).val σ=ab v):dz E w c v (a.eval x)/\gp σ v:=by
 obtain⟨s,h1,h2⟩:=Rd.bind_some h;obtain⟨h3,h4⟩:=jH cU h1;split at h2
 ·obtain rfl:=aq h2;exact⟨h3,λn hn=>h4 n (by simpa [bO]using hn)⟩
 ·simp at h2
theorem mU(cU:dX E σ a w c){x:cL}{k:ki}{n:ax}(h:(xp x).val σ=ab (k,n)):a.eval x= .int k n:=by
 obtain⟨s,h1,h2⟩:=Rd.bind_some h;obtain⟨h3,_⟩:=gd cU h1;split at h2
 ·simp at h2;obtain⟨rfl,rfl⟩:=h2;exact h3
 ·simp at h2
theorem cM{nm:au}{x:Obj}(h:(gV nm).val σ=ab x):σ (cf nm)= .o x:=by
 simp only[gV,Rd.vL]at h;split at h
 ·rename_i y hy;simp at h;subst h;exact hy
 ·simp at h
theorem de{t:au}{ti:TI}(h:(oZ E t).val σ=ab ti):E.ty t=ab ti:=by
 unfold oZ at h;split at h
 ·simp at h;subst h;assumption
 ·simp at h
theorem iB{nm:au}{u:Unit}(h:(fresh nm).val σ=ab u):σ (cf nm)= .ie/\nm<900000000:=by
 simp only[fresh,Rd.vL]at h;split at h
 ·rename_i hy;obtain⟨h1,_⟩:=bQ h;exact⟨hy,by have:=bN h1;omega⟩
 ·simp at h
def e7(P:b9)(E:eh)(σ:St)(a:Act)(w:bf)(c:dJ)(o:dU)(ws:ak (au×dF)):Prop:=
 ∀(K:Act->bf->Prop) (Q:Exit->Act->bf->Prop),
  (∀v w' c',Ok E (wr σ ws) w' c'->dX E (wr σ ws) (a.put o.dst v) w' c'->lE σ c w (wr σ ws) c' w'->nM σ c c'->K (a.put o.dst v) w')->o.wp P a w K Q
theorem sQ{o:dU}{v:aR}{w':bf}{K:Act->bf->Prop}{Q:Exit->Act->bf->Prop}(hr:(execOp a.eval o).run P w= .ok (.value v) w')(hK:K (a.put o.dst v) w'):o.wp P a w K Q:=by unfold Gz;rw[hr];exact hK
theorem xN{o:dU}{w':bf}{K:Act->bf->Prop}{Q:Exit->Act->bf->Prop}(hr:(execOp a.eval o).run P w= .ok .skip w')(hK:K (a.put o.dst undef) w'):o.wp P a w K Q:=by unfold Gz;rw[hr];exact hK
theorem gO.refl(σ:St)(c:dJ):gO σ c c:=λ_ _=>⟨rfl,rfl⟩
theorem eT(bI:Ok E σ w c)(cU:dX E σ a w c){o:dU}(hd:∀d,o.dst=ab d->d<a.tmps.size){s:SV}{v:aR}
  (hs:gu E w c s v) (hk:jU σ s) (hr:(execOp a.eval o).run P w= .ok (.value v) w):e7 P E σ a w c o (dw o s):=by
 intro K Q hK;obtain⟨s1,s2,s3⟩:=oA σ o s;obtain⟨h1,h2⟩:=bI.slot s3;refine sQ hr (hK v w c h1 ?_ h2 (gO.refl _ _).w);refine cU.change bI h2 (gO.refl _ _) (λnm hn=>by rw[s3];exact hn) o v s1 (λd ho=>⟨hd d ho, ?_, ?_⟩)
 ·rw[s2 d ho];exact hs
 ·rw[s2 d ho];intro n hn;rw[s3];exact hk n hn
theorem wL(bI:Ok E σ w c)(cU:dX E σ a w c){o:dU}(hd:∀d,o.dst=ab d->d<a.tmps.size){nm:au}{ob:Obj}{s:SV}{v:aR}{w':bf}{p:Pl}{g:au->au->Pl}
  (hn:σ (cf nm)= .ie) (ix:nm<900000000)
  (j4:∀c':dJ,c'.P nm=p->c'.G nm=g->(∀b,c.K b->c'.K b)->gO σ c c'->mM E w' c' nm ob)
  (mR:∀c':dJ,c'.P nm=p->c'.G nm=g->∀b,ea c' nm ob b->w.heap.size<=b)
  (B5:∀xs,ob= .box xs->∀a∈xs,gp σ a)
  (uZ:∀c':dJ,c'.P nm=p->c'.G nm=g->gu E w' c' s v) (yj:∀n∈bO s,n=nm\/σ (cf n)≠ .ie)
  (hW:∀b,b<w.heap.size->w'.heap[b]? =w.heap[b]?) (eM:w.heap.size<=w'.heap.size) (G9:w'.os=w.os) (NJ:w'.tape=w.tape) (NF:w'.output=w.output)
  (hr:(execOp a.eval o).run P w= .ok (.value v) w'):e7 P E σ a w c o ((cf nm, .o ob)::dw o s):=by
 intro K Q hK;let c':dJ:=⟨λn=>if n=nm then p else c.P n,λn=>if n=nm then g else c.G n,c.K⟩
 have hP:c'.P nm=p:=br rfl;have hG:c'.G nm=g:=br rfl;have hA:gO σ c c':=λm hm=>by
  have:m≠nm:=by rintro rfl;rcases hm with h|h;exact h hn;omega
  exact⟨bF this,bF this⟩
 let σ1:=mK σ (cf nm) (.o ob);obtain⟨s1,s2,s3⟩:=oA σ1 o s;have key:∀m,wr σ1 (dw o s) (cf m)=if m=nm then .o ob else σ (cf m):=λm=>by rw[s3];exact mX _ _ _ _
 have fP:∀m,σ (cf m)≠ .ie->wr σ1 (dw o s) (cf m)≠ .ie:=λm hm=>by rw[key];split<;>simp_all
 have hh:=bI.change (σ':=wr σ1 (dw o s)) (w':=w') (c':=c') (λm=>m=nm) (λm hm=>by rw[key,bF hm]) fP hA
  (λb hb _=>hW b hb) eM (λ_ h=>h) (λ_ h=> .inl h) (λb hb=>gF (bI.lt b hb) eM)
  (λm x hm ho=>by subst hm;rw[key,br rfl]at ho;cases ho;exact j4 c' hP hG (λ_ h=>h) hA)
  (λm x b hm ho hf=>by subst hm;rw[key,br rfl]at ho;cases ho;have:=mR c' hP hG b hf;exact⟨.inr this,λhk=>by have:=bI.lt b hk;omega⟩)
  (λm x m' x' b hm sc _ _ _ _=>by rw[hm,sc])
  (λm xs hm ho y hy n iC=>by subst hm;rw[key,br rfl]at ho;cases ho;exact fP n (B5 xs rfl y hy n iC)) G9 NJ NF
 refine sQ hr (hK v w' c' hh.1 ?_ hh.2 hA.w);refine cU.change bI hh.2 hA fP o v (λn iC=>by rw[s1 n iC];exact gv _ _ _ _) (λd ho=>⟨hd d ho, ?_, ?_⟩)
 ·show gu E w' c' (slot (wr σ1 (dw o s)) d) v;rw[s2 d ho];exact uZ c' hP hG
 ·show jU (wr σ1 (dw o s)) (slot (wr σ1 (dw o s)) d);rw[s2 d ho];intro n iC;rw[key];split
  ·simp
  ·rename_i h;exact(yj n iC).resolve_left h
theorem pk(bI:Ok E σ w c)(cU:dX E σ a w c){o:dU}(hd:∀d,o.dst=ab d->d<a.tmps.size){nm:au}{ob ob':Obj}{s:SV}{v:aR}{w':bf}
  (hn:σ (cf nm)= .o ob) (j4:mM E w' c nm ob') (mR:∀b,ea c nm ob' b->ea c nm ob b)
  (B5:∀xs,ob'= .box xs->∀a∈xs,gp σ a)
  (uZ:gu E w' c s v) (yj:jU σ s)
  (hW:∀b,b<w.heap.size->¬ea c nm ob b->w'.heap[b]? =w.heap[b]?) (eM:w.heap.size<=w'.heap.size) (G9:w'.os=w.os) (NJ:w'.tape=w.tape) (NF:w'.output=w.output)
  (hr:(execOp a.eval o).run P w= .ok (.value v) w'\/((execOp a.eval o).run P w= .ok .skip w'/\v=undef)):e7 P E σ a w c o ([(cf nm, .o ob')]++dw o s):=by
 intro K Q hK;let σ1:=mK σ (cf nm) (.o ob');obtain⟨s1,s2,s3⟩:=oA σ1 o s;have key:∀m,wr σ1 (dw o s) (cf m)=if m=nm then .o ob' else σ (cf m):=λm=>by rw[s3];exact mX _ _ _ _
 have fP:∀m,σ (cf m)≠ .ie->wr σ1 (dw o s) (cf m)≠ .ie:=λm hm=>by rw[key];split<;>simp_all
 have fO:∀b,ea c nm ob b->ig (λm=>m=nm) σ c b:=λb hb=>⟨nm,ob,rfl,hn,hb⟩
 have hh:=bI.change (σ':=wr σ1 (dw o s)) (w':=w') (c':=c) (λm=>m=nm) (λm hm=>by rw[key,bF hm]) fP (gO.refl _ _)
  (λb hb ND=>hW b hb (λhf=>ND (fO b hf))) eM (λ_ h=>h) (λ_ h=> .inl h) (λb hb=>gF (bI.lt b hb) eM)
  (λm x hm ho=>by subst hm;rw[key,br rfl]at ho;cases ho;exact j4)
  (λm x b hm ho hf=>by subst hm;rw[key,br rfl]at ho;cases ho;exact⟨.inl (fO b (mR b hf)),bI.kk _ _ b hn (mR b hf)⟩)
  (λm x m' x' b hm sc _ _ _ _=>by rw[hm,sc])
  (λm xs hm ho y hy n iC=>by subst hm;rw[key,br rfl]at ho;cases ho;exact fP n (B5 xs rfl y hy n iC)) G9 NJ NF
 have WC:dX E (wr σ1 (dw o s)) (a.put o.dst v) w' c:=by
  refine cU.change bI hh.2 (gO.refl _ _) fP o v (λn iC=>by rw[s1 n iC];exact gv _ _ _ _) (λd ho=>⟨hd d ho, ?_, ?_⟩)
  ·rw[s2 d ho];exact uZ
  ·rw[s2 d ho];intro n iC;rw[key];split
   ·simp
   ·exact yj n iC
 rcases hr with hr|⟨hr,rfl⟩
 ·exact sQ hr (hK v w' c hh.1 WC hh.2 (gO.refl _ _).w)
 ·exact xN hr (hK undef w' c hh.1 WC hh.2 (gO.refl _ _).w)
end
end Go.FG

namespace Go.FG
theorem Sj:∀{x y:Ck},VF x y=ae->x=y:=by intro x y h;cases x<;>cases y<;>simp[VF]at h<;>first|rfl|(subst h;rfl)|(have:=aJ h;subst this;rfl)
theorem n8:∀{a b:ak Ck},na a b=ae->a=b
 |[],[],_=>rfl
 |[],_::_,h=>by simp[na]at h
 |_::_,[],h=>by simp[na]at h
 |x::l,y::r,h=>by
  simp only[na,az]at h;rw[Sj h.1,n8 h.2]
structure aba (E:eh) (w:bf) (K:au->Prop) (b o n c e:au) (xs:aY) (ti:TI) (U:au->au->aR):Prop where
 nn:n=xs.length
 ty:E.ty e=ab ti
 cap:xs.length<=c
 mx:c<=maxLen
 kb:K b
 sh:∀y∈xs,y.map CV.kd=ti.ks
 cell:∀i j y x,xs[i]? =ab y->y[j]? =ab x->w.cell? (ad b (o+i*ti.ks.length+j))=ab (U i j)
 inn:∀i j y x,xs[i]? =ab y->y[j]? =ab x->ch E w K (U i j) x
theorem ch.Cf{E:eh}{w:bf}{K:au->Prop}{b o n c e:au}{xs:aY}(h:ch E w K (.slice (ab (ad b o)) n c) (.l e xs))(hn:0<xs.length):∃ti U,aba E w K b o n c e xs ti U:=by
 generalize hv:RB (ab (ad b o)) n c=v at h;generalize hx:CV.l e xs=x at h;cases h with
 |i=>cases hx
 |b=>cases hx
 |s=>cases hx
 |nl=>cases hx;simp at hn
 |l e xs b o c ti U ht hc hm hK hs hcell fO=>cases hx;cases hv;exact⟨ti,U,rfl,ht,hc,hm,hK,hs,hcell,fO⟩
theorem DA{E:eh}{w:bf}{c:dJ}{u:aR}{x:CV}(h:ch E w c.K u x):dz E w c (dec x.kd x) u:=by
 cases x with
 |i k n=>cases h;rfl
 |b=>cases h;rfl
 |s=>cases h with|s _ ho=>exact⟨rfl,ho⟩
 |l e xs=>exact h
theorem F0{E:eh}{w:bf}{c:dJ}{u:aR}{x:CV}(h:ch E w c.K u x):dz E w c (Ov x) u:=by
 cases x with
 |i k n=>cases h;rfl
 |b=>cases h;rfl
 |s=>cases h with|s _ ho=>exact⟨rfl,ho⟩
 |l e xs=>exact h
theorem mc{E:eh}{w:bf}{c:dJ}{u:aR}{x:CV}(hl:p_ x=ah)(h:Sc u x):dz E w c (dec x.kd x) u:=by
 cases x with
 |i=>exact h.1
 |b=>exact h.1
 |s=>exact h
 |l=>simp[p_]at hl
theorem Hh(k:Ck)(x:CV):bh (dec k x)=[]:=by cases k<;>rfl
theorem wY(x:CV):bh (Ov x)=[]:=by cases x<;>rfl
theorem jh(xs:aY)(i:au):∀(ks:ak Ck) (j q:au),(qv xs i j ks)[q]? =(ks[q]?).map λk=>dec k (ao xs i (j+q)):=by
 intro ks;induction ks with
 |nil=>intro j q;simp[qv]
 |cons k ks ih=>
  intro j q;cases q with
  |zero=>simp[qv]
  |succ q=>simp only[qv,cZ,ih];congr 2;funext k;congr 2;omega
theorem BK(nm:au)(xs:aY)(i:au):∀(ks:ak Ck) (j q:au),(uU nm xs i j ks)[q]? =(ks[q]?).map λk=>match k with| .l _=>AV.inn nm i (j+q)|k=>dec k (ao xs i (j+q)):=by
 intro ks;induction ks with
 |nil=>intro j q;simp[uU]
 |cons k ks ih=>
  intro j q;cases q with
  |zero=>cases k<;>simp[uU]
  |succ q=>
   have e:j+1+q=j+(q+1):=by omega
   cases k<;>simp only[uU,cZ,ih,e]
theorem dY{xs:aY}{i j:au}{y:ak CV}{x:CV}(hi:xs[i]? =ab y)(hj:y[j]? =ab x):ao xs i j=x:=by simp[ao,gW,hi,hj]
theorem iE(xs:aY)(i:au):∀(ks:ak Ck) (j:au),(qv xs i j ks).length=ks.length:=by
 intro ks;induction ks with
 |nil=>intro j;rfl
 |cons k ks ih=>intro j;simp[qv,ih]
theorem uE(nm:au)(xs:aY)(i:au):∀(ks:ak Ck) (j:au),(uU nm xs i j ks).length=ks.length:=by
 intro ks;induction ks with
 |nil=>intro j;rfl
 |cons k ks ih=>intro j;cases k<;>simp[uU,ih]
theorem nF{ks W0:ak Ck}{j:au}{y:ak CV}(hy:y.map CV.kd=ks)(h:(ks.drop j).take W0.length=W0){q:au}(hq:q<W0.length):∃x,y[j+q]? =ab x/\W0[q]? =ab x.kd:=by
 have h1:W0[q]? =ks[j+q]? :=by rw[<-h,dj,br hq,c7]
 rw[<-hy,bc]at h1;cases hx:y[j+q]? with
 |none=>rw[hx]at h1;simp at h1;omega
 |some x=>exact⟨x,rfl,by rw[h1,hx];rfl⟩
section
variable {P:b9} {E:eh} {σ:St} {a:Act} {w:bf} {c:dJ}
theorem qf{p:Pl}{G:au->au->Pl}{xs:aY}{ks:ak Ck}{i j e2:au}(eI:gq w p xs (λi j u x=>if ae=ae then XC E w G i j u x else ch E w c.K u x))(jR:∀y∈xs,y.map CV.kd=ks)(hi:i<p.n)(hk:ks[j]? =ab (.l e2)):
  ∃ys y,xs[i]? =ab y/\y[j]? =ab (.l e2 ys)/\∃u,XC E w G i j u (.l e2 ys):=by
 have jw:i<xs.length:=by rw[<-eI.n];exact hi
 have hy:xs[i]? =ab xs[i]:=by simp[jw]
 have h1:=jR xs[i] (bk jw);rw[<-h1,bc]at hk;cases hx:xs[i][j]? with
 |none=>rw[hx]at hk;cases hk
 |some x=>
  rw[hx]at hk;cases x with
  |l e ys=>
   cases hk;have gH:p.nil=false:=by
    cases hn:p.nil with
    |false=>rfl
    |true=>have:=(eI.nil hn).1;subst this;simp at jw
   obtain⟨vals,_,_,_,_,mI⟩:=eI.mem gH;obtain⟨u,_,hr⟩:=mI i _ j _ hy hx;rw[br rfl]at hr;exact⟨ys,_,hy,hx,u,hr⟩
  |i=>cases hk
  |b=>cases hk
  |s=>cases hk
theorem fy{ks:ak Ck}(h:plain ks=ae){y:ak CV}(hy:y.map CV.kd=ks){j:au}{x:CV}(hx:y[j]? =ab x):p_ x=false:=by
 have h1:x.kd∈ks:=by rw[<-hy];exact b7.2 ⟨x,aD hx,rfl⟩
 have h2:=aZ.1 h _ h1;cases x<;>simp_all [CV.kd,p_]
structure IM (E:eh) (σ:St) (w:bf) (c:dJ) (ti:TI) (v:aR) (xs:ak AV):Prop where
 ex:∃(b o:au) (cs:ak aR),v= .pointer (ab (ad b o))/\cs.length=ti.ks.length/\(∀(j:au) (u:aR),cs[j]? =ab u->w.cell? (ad b (o+j))=ab u)/\
  xs.length=ti.ks.length/\(∀(j:au) (x:AV),xs[j]? =ab x->∃u:aR,cs[j]? =ab u/\dz E w c x u)
 kn:∀x∈xs,gp σ x
theorem jL{ti:TI}{b o:au}{xs:ak AV}(hl:xs.length=ti.ks.length)(h:∀(j:au) (x:AV),xs[j]? =ab x->∃u:aR,w.cell? (ad b (o+j))=ab u/\dz E w c x u)(hk:∀x∈xs,gp σ x):
  IM E σ w c ti (.pointer (ab (ad b o))) xs:=by
 refine⟨⟨b,o,(cy xs.length).map (λj=>(w.cell? (ad b (o+j))).getD undef),rfl,by simp[hl], ?_,hl, ?_⟩,hk⟩
 ·intro j u hu;simp only[bc]at hu;by_cases hj:j<xs.length
  ·obtain⟨u',oK,_⟩:=h j xs[j] (by simp[hj]);simp only[hj,qO,gm,oK,tq,gJ]at hu;rw[oK,hu]
  ·simp[iL (l:=cy xs.length) (by simpa using hj)]at hu
 ·intro j x hx;obtain⟨u,hu,hv⟩:=h j x hx;refine⟨u, ?_,hv⟩
  have hj:j<xs.length:=(aG.1 hx).1;simp[hj,hu]
theorem KA(bI:Ok E σ w c){ti:TI}{p:AV}{v:aR}{xs:ak AV}(hp:dz E w c p v)(h:(pw E ti p).val σ=ab xs):IM E σ w c ti v xs:=by
 have Ot:∀(n:au) (k:Ck) (x:CV),n∈bh (dec k x)->σ (cf n)≠ .ie:=λn k x hn=>by rw[Hh]at hn;simp at hn
 cases p with
 |bp nm j=>
  obtain⟨o,ho,h2⟩:=Rd.bind_some h;have j4:=bI.obj nm o (cM ho);obtain rfl:v=_:=hp;cases o with
  |box ys=>
   obtain⟨hle,h3⟩:=bQ h2;have hle:=bN hle;obtain rfl:=aq h3;obtain⟨vals,hb,hs,hc⟩:=j4;refine jL (by simp;omega) (λq x hx=> ?_) (λx hx=>bI.kn nm ys (cM ho) x (iM (iN hx)));rw[dj]at hx;split at hx
   ·rw[c7]at hx;obtain⟨u,hu,hv⟩:=hc (j+q) x hx;exact⟨u,(hb.cell (j+q)).trans hu,hv⟩
   ·cases hx
  |lk cs=>
   obtain⟨hle,h3⟩:=bQ h2;have hle:=bN hle;obtain rfl:=aq h3;refine jL (by simp;omega) (λq x hx=> ?_) (λx hx=> ?_)
   ·rw[bc,dj]at hx;split at hx
    ·rw[c7]at hx;cases hy:cs[j+q]? with
     |none=>rw[hy]at hx;cases hx
     |some y=>rw[hy]at hx;cases hx;obtain⟨u,hu,hv⟩:=j4.2 (j+q) y hy;exact⟨u,hu,F0 hv⟩
    ·cases hx
   ·obtain⟨y,_,rfl⟩:=b7.1 hx;intro n hn;rw[wY]at hn;simp at hn
  |row=>simp at h2
  |ej=>simp at h2
  |dead=>simp at h2
 |fp cs j=>
  obtain⟨hle,h3⟩:=bQ h;have hle:=bN hle;obtain rfl:=aq h3;obtain⟨b,rfl,hb⟩:=hp;refine jL (by simp;omega) (λq x hx=> ?_) (λx hx=> ?_)
  ·rw[bc,dj]at hx;split at hx
   ·rw[c7]at hx;cases hy:cs[j+q]? with
    |none=>rw[hy]at hx;cases hx
    |some y=>rw[hy]at hx;cases hx;obtain⟨u,hu,hv⟩:=hb.2 (j+q) y hy;exact⟨u,hu,F0 hv⟩
   ·cases hx
  ·obtain⟨y,_,rfl⟩:=b7.1 hx;intro n hn;rw[wY]at hn;simp at hn
 |sp e ys i j=>
  obtain⟨te,ht,h2⟩:=Rd.bind_some h;have ht:=de ht;obtain⟨hk,h3⟩:=bQ h2;have hk:=n8 hk;obtain rfl:=aq h3;obtain⟨b,o,cp,YI,hh,hi,C0,rfl⟩:=hp;obtain rfl:te=YI:=aq (ht.symm.trans C0);refine jL (iE _ _ _ _) (λq x hx=> ?_) (λx hx=> ?_)
  ·rw[jh]at hx;obtain⟨ti3,U,hL⟩:=hh.Cf (by omega);obtain rfl:te=ti3:=aq (ht.symm.trans hL.ty);have hq:q<ti.ks.length:=by
    cases hq:ti.ks[q]? with
    |none=>rw[hq]at hx;cases hx
    |some k=>exact(aG.1 hq).1
   have hy:ys[i]? =ab ys[i]:=by simp[hi]
   obtain⟨z,hz,qZ⟩:=nF (hL.sh ys[i] (bk hi)) hk hq;rw[qZ]at hx;cases hx;rw[dY hy hz];exact⟨U i (j+q),by have:=hL.cell i (j+q) _ z hy hz;rwa[show o+i*te.ks.length+j+q=o+i*te.ks.length+(j+q)by omega],DA (hL.inn i (j+q) _ z hy hz)⟩
  ·obtain⟨q,hq⟩:=bB hx;rw[jh]at hq;cases qZ:ti.ks[q]? with
   |none=>rw[qZ]at hq;cases hq
   |some k=>rw[qZ]at hq;cases hq;intro n hn;exact Ot n _ _ hn
 |rp nm i j=>
  obtain⟨o,ho,h2⟩:=Rd.bind_some h;have ho:=cM ho;have j4:=bI.obj nm o ho;obtain⟨hi,rfl⟩:=hp;cases o with
  |row e ex ys=>
   obtain⟨te,ht,h2⟩:=Rd.bind_some h2;have ht:=de ht;obtain⟨hk,h3⟩:=bQ h2;have hk:=n8 hk;have h3:(ex=ae/\plain ti.ks=ae/\xs=qv ys i j ti.ks)\/((ex=ah\/tO nm=ah)/\xs=bif ex then uU nm ys i j ti.ks else qv ys i j ti.ks):=by
    cases hF:(ex&&tO nm)with
    |true=>rw[hF,aw]at h3;obtain⟨oW,h3⟩:=bQ h3;rw[az]at hF;exact .inl ⟨hF.1,oW,(aq h3).symm⟩
    |false=>
     rw[hF,aC]at h3;refine .inr ⟨?_,(aq h3).symm⟩;cases ex with
     |false=>exact .inl rfl
     |true=>exact .inr (by simpa using hF)
   obtain⟨⟨YI,C0,eM,jR⟩,eI,_⟩:=j4;obtain rfl:te=YI:=aq (ht.symm.trans C0);have gH:(c.P nm).nil=false:=by
    cases hn:(c.P nm).nil with
    |false=>rfl
    |true=>have:=(eI.nil hn).1;subst this;rw[eI.n]at hi;simp at hi
   obtain⟨vals,hb,J6,_,mJ,mI⟩:=eI.mem gH;have jw:i<ys.length:=by rw[<-eI.n];exact hi
   have hy:ys[i]? =ab ys[i]:=by simp[jw]
   rcases h3 with ⟨rfl,oW,rfl⟩|h3
   ·refine jL (iE _ _ _ _) (λq x hx=> ?_) (λx hx=> ?_)
    ·have hq:q<ti.ks.length:=by have:=(aG.1 hx).1;simpa [iE]using this
     obtain⟨z,hz,qZ⟩:=nF (jR ys[i] (bk jw)) hk hq;obtain⟨u,hu,hr⟩:=mI i _ (j+q) z hy hz;rw[br rfl]at hr;rw[jh,qZ]at hx;cases hx;refine⟨u, ?_, ?_⟩
     ·rw[hb.cell];rw[<-hu];congr 1;omega
     ·have hzk:=aZ.1 oW z.kd (aD qZ);show dz E w c (dec z.kd (ao ys i (j+q))) u;rw[dY hy hz];cases z with
      |l e2 zs=>cases hzk
      |i k n=>exact mc rfl hr
      |b t=>exact mc rfl hr
      |s t=>exact mc rfl hr
    ·obtain⟨q,hq⟩:=bB hx;intro n hn;rw[jh]at hq;cases qZ:ti.ks[q]? with
     |none=>rw[qZ]at hq;cases hq
     |some k=>rw[qZ]at hq;cases hq;exact Ot n _ _ hn
   obtain⟨hFn,rfl⟩:=h3;refine jL (by cases ex<;>simp[iE,uE]) (λq x hx=> ?_) (λx hx=> ?_)
   ·have hq:q<ti.ks.length:=by have:=(aG.1 hx).1;cases ex<;>simpa [iE,uE]using this
    obtain⟨z,hz,qZ⟩:=nF (jR ys[i] (bk jw)) hk hq;obtain⟨u,hu,hr⟩:=mI i _ (j+q) z hy hz;refine⟨u, ?_, ?_⟩
    ·rw[hb.cell];rw[<-hu];congr 1;omega
    ·cases ex with
     |false=>rw[bF (by simp)]at hr;have hx:(qv ys i j ti.ks)[q]? =ab x:=hx;rw[jh,qZ]at hx;cases hx;rw[dY hy hz];exact DA hr
     |true=>
      rw[br rfl]at hr;have hx:(uU nm ys i j ti.ks)[q]? =ab x:=hx;rw[BK,qZ]at hx;cases z with
      |l e2 zs=>cases hx;exact⟨⟨hi,hr.1⟩,hFn.resolve_left (by simp)⟩
      |i k n=>cases hx;rw[dY hy hz];exact mc rfl hr
      |b t=>cases hx;rw[dY hy hz];exact mc rfl hr
      |s t=>cases hx;rw[dY hy hz];exact mc rfl hr
   ·obtain⟨q,hq⟩:=bB hx;intro n hn;cases ex with
    |false=>
     have hq:(qv ys i j ti.ks)[q]? =ab x:=hq;rw[jh]at hq;cases qZ:ti.ks[q]? with
     |none=>rw[qZ]at hq;cases hq
     |some k=>rw[qZ]at hq;cases hq;exact Ot n _ _ hn
    |true=>
     have hq:(uU nm ys i j ti.ks)[q]? =ab x:=hq;rw[BK]at hq;cases qZ:ti.ks[q]? with
     |none=>rw[qZ]at hq;cases hq
     |some k=>
      rw[qZ]at hq;cases k with
      |l e2=>cases hq;simp[bh]at hn;subst hn;rw[ho];simp
      |i=>cases hq;exact Ot n _ _ hn
      |b=>cases hq;exact Ot n _ _ hn
      |s=>cases hq;exact Ot n _ _ hn
      |o=>cases hq;exact Ot n _ _ hn
  |ej e ys=>
   obtain⟨te,ht,h2⟩:=Rd.bind_some h2;have ht:=de ht;obtain⟨hk,h3⟩:=bQ h2;have hk:=n8 hk;obtain rfl:=aq h3;obtain⟨hh,hn,YI,C0,eM⟩:=j4;obtain rfl:te=YI:=aq (ht.symm.trans C0);have jw:i<ys.length:=by rw[<-hn];exact hi
   have hy:ys[i]? =ab ys[i]:=by simp[jw]
   have gH:(c.P nm).nil=false:=by
    cases hq:(c.P nm).nil with
    |false=>rfl
    |true=>unfold jj at hh;rw[br hq]at hh;cases hh;simp at jw
   unfold jj at hh;rw[bF (by simp[gH]),hn]at hh;refine jL (iE _ _ _ _) (λq x hx=> ?_) (λx hx=> ?_)
   ·rw[jh]at hx;obtain⟨ti3,U,hL⟩:=hh.Cf (by omega);obtain rfl:te=ti3:=aq (ht.symm.trans hL.ty);have hq:q<ti.ks.length:=by
     cases hq:ti.ks[q]? with
     |none=>rw[hq]at hx;cases hx
     |some k=>exact(aG.1 hq).1
    obtain⟨z,hz,qZ⟩:=nF (hL.sh ys[i] (bk jw)) hk hq;rw[qZ]at hx;cases hx;rw[dY hy hz];exact⟨U i (j+q),by have:=hL.cell i (j+q) _ z hy hz;rw[<-this];congr 2;rw[eM];omega,DA (hL.inn i (j+q) _ z hy hz)⟩
   ·obtain⟨q,hq⟩:=bB hx;rw[jh]at hq;cases qZ:ti.ks[q]? with
    |none=>rw[qZ]at hq;cases hq
    |some k=>rw[qZ]at hq;cases hq;intro n hn;exact Ot n _ _ hn
  |box=>simp at h2
  |lk=>simp at h2
  |dead=>simp at h2
 |ip nm i j i2 j2=>
  obtain⟨o,ho,h2⟩:=Rd.bind_some h;have ho:=cM ho;have j4:=bI.obj nm o ho;obtain⟨⟨nc,hi,rfl⟩,hFp⟩:=hp;cases o with
  |row e ex ys=>
   cases ex with
   |false=>simp at h2
   |true=>
    obtain⟨te,ht,h2⟩:=Rd.bind_some h2;have ht:=de ht;split at h2
    ·rename_i e2 wP;obtain⟨t2,C0,h2⟩:=Rd.bind_some h2;have C0:=de C0;obtain⟨hk,h3⟩:=bQ h2;have hk:=n8 hk;obtain rfl:=aq h3;obtain⟨⟨tj,Tf,eM,jR⟩,eI,_⟩:=j4;obtain rfl:te=tj:=aq (ht.symm.trans Tf);obtain⟨zs,y,hy,Ti,uu,_,tk,Aw,oW,DX,yl,lL⟩:=qf (c:=c) eI jR nc wP;obtain rfl:t2=tk:=aq (C0.symm.trans Aw);rw[dY hy Ti];refine jL (iE _ _ _ _) (λq x hx=> ?_) (λx hx=> ?_)
     ·rw[jh]at hx;have hq:q<ti.ks.length:=by
       cases hq:ti.ks[q]? with
       |none=>rw[hq]at hx;cases hx
       |some k=>exact(aG.1 hq).1
      have B1:i2<zs.length:=by rw[<-lL.n];exact hi
      have wR:(c.G nm i j).nil=false:=by
       cases hn:(c.G nm i j).nil with
       |false=>rfl
       |true=>have:=(lL.nil hn).1;subst this;simp at B1
      obtain⟨vals,hb,_,_,_,mI⟩:=lL.mem wR;have hzi:zs[i2]? =ab zs[i2]:=by simp[B1]
      obtain⟨z,hz,qZ⟩:=nF (yl zs[i2] (bk B1)) hk hq;obtain⟨u,hu,hr⟩:=mI i2 _ (j2+q) z hzi hz;rw[qZ]at hx;cases hx;refine⟨u, ?_, ?_⟩
      ·rw[hb.cell,<-hu];congr 1;omega
      ·show dz E w c (dec z.kd (ao zs i2 (j2+q))) u;rw[dY hzi hz];exact mc (fy oW (yl _ (bk B1)) hz) hr
     ·obtain⟨q,hq⟩:=bB hx;rw[jh]at hq;cases qZ:ti.ks[q]? with
      |none=>rw[qZ]at hq;cases hq
      |some k=>rw[qZ]at hq;cases hq;intro n hn;exact Ot n _ _ hn
    ·simp at h2
  |ej=>simp at h2
  |box=>simp at h2
  |lk=>simp at h2
  |dead=>simp at h2
 |i=>simp[pw]at h
 |b=>simp[pw]at h
 |s=>simp[pw]at h
 |sh=>simp[pw]at h
 |nl=>simp[pw]at h
 |own=>simp[pw]at h
 |vw=>simp[pw]at h
 |inn=>simp[pw]at h
 |fn=>simp[pw]at h
end
end Go.FG

namespace Go.FG
section
variable {P:b9} {E:eh} {σ:St} {a:Act} {w:bf} {c:dJ} {o:dU} {nm:au} {e:o7}
theorem fY{s:Sem aR}{v:aR}{w':bf}(hr:s.run P w= .ok v w'):(do pure (Next.value (<-s)):Sem Next).run P w= .ok (.value v) w':=by simp only[bJ,hr,ba,bV]
theorem eC(bI:Ok E σ w c)(cU:dX E σ a w c)(hd:∀d,o.dst=ab d->d<a.tmps.size){s:SV}{v:aR}(h:(val o s).val σ=ab e)(hs:gu E w c s v)(hk:jU σ s)(hr:(execOp a.eval o).run P w= .ok (.value v) w):e7 P E σ a w c o e.ws:=by obtain rfl:=aq h;exact eT bI cU hd hs hk hr
theorem zu(bI:Ok E σ w c)(cU:dX E σ a w c)(hd:∀d,o.dst=ab d->d<a.tmps.size){b:aL}{x:AV}{v:aR}(h:(EA o b x).val σ=ab e)(hc:e.cond=ae)(hs:b=ae->dz E w c x v)(hk:gp σ x)(hr:b=ae->(execOp a.eval o).run P w= .ok (.value v) w):e7 P E σ a w c o e.ws:=by obtain rfl:=aq h;have hc:b=true:=hc;exact eT bI cU hd (hs hc) (λn hn=>hk n (by simpa [bO]using hn)) (hr hc)
theorem qa{σ:St}{x:AV}(h:bh x=[]):gp σ x:=λn hn=>by rw[h]at hn;simp at hn
theorem F2(bI:Ok E σ w c)(cU:dX E σ a w c)(hd:∀d,o.dst=ab d->d<a.tmps.size){x:cL}(ho:o.op= .move x\/o.op= .assign x)(h:(jz E nm o).val σ=ab e):e7 P E σ a w c o e.ws:=by
 have h':((AM x).bind λv=>val o v).val σ=ab e:=by rcases ho with ho|ho<;>simpa [jz,ho]using h
 obtain⟨v,h1,h2⟩:=Rd.bind_some h';obtain⟨hv,hk⟩:=jH cU h1;refine eC bI cU hd h2 hv hk ?_;rcases ho with ho|ho<;>(unfold execOp;rw[ho];rfl)
theorem Ct(bI:Ok E σ w c)(cU:dX E σ a w c)(hd:∀d,o.dst=ab d->d<a.tmps.size){x:cL}(ho:o.op= .nilCheck x)(h:(jz E nm o).val σ=ab e):e7 P E σ a w c o e.ws:=by
 simp only[jz,ho]at h;obtain⟨p,h1,h⟩:=Rd.bind_some h;obtain⟨ex,kx⟩:=gd cU h1;cases p with
 |bp n j=>have pY:a.eval x= .pointer (ab (ad (c.P n).blk j)):=ex;refine eC bI cU hd h (v:=a.eval x) ex (λn hn=>kx n (by simpa [bO]using hn)) ?_;unfold execOp;rw[ho];simp only[pY];rfl
 |rp n i j=>have pY:a.eval x= .pointer (ab (ad (c.P n).blk ((c.P n).off+i*(c.P n).sz+j))):=ex.2;refine eC bI cU hd h (v:=a.eval x) ex (λn hn=>kx n (by simpa [bO]using hn)) ?_;unfold execOp;rw[ho];simp only[pY];rfl
 |_=>cases h
theorem OA(bI:Ok E σ w c)(cU:dX E σ a w c)(hd:∀d,o.dst=ab d->d<a.tmps.size){x y z:cL}(ho:o.op= .pick x y z)(h:(jz E nm o).val σ=ab e)(hc:e.cond=ae):e7 P E σ a w c o e.ws:=by
 simp only[jz,ho]at h;obtain⟨cx,h1,h⟩:=Rd.bind_some h;obtain⟨vy,h2,h⟩:=Rd.bind_some h;obtain⟨vz,h3,h⟩:=Rd.bind_some h;obtain⟨ex,kx⟩:=gd cU h1;obtain⟨ey,ky⟩:=jH cU h2;obtain⟨ez,kz⟩:=jH cU h3;have run:∀b,a.eval x= .bool b->(execOp a.eval o).run P w= .ok (.value (if b then a.eval y else a.eval z)) w:=by intro b hb;unfold execOp;rw[ho];simp only[hb,asBool,bJ,bV,ba]
 cases cx with
 |b b=>
  replace ex:a.eval x= .bool b:=ex;have both:∀p q,vy= .v ah [.b p]->vz= .v ah [.b q]->e7 P E σ a w c o e.ws:=by
   rintro p q rfl rfl;refine eC bI cU hd h (v:=if b then a.eval y else a.eval z) ?_ (λn hn=>by simp[bO,bh]at hn) (run b ex);cases b
   ·exact ez
   ·exact ey
  have lft:vy= .gM []->e7 P E σ a w c o e.ws:=by
   rintro rfl;replace h:(Rd.ret (⟨!b,dw o vz⟩:o7)).val σ=ab e:=by cases vz<;>exact h
   obtain rfl:=aq h;have hb:b=false:=by simpa using hc
   subst hb;exact eT bI cU hd ez kz (run ah ex)
  have rgt:vz= .gM []->vy≠ .gM []->e7 P E σ a w c o e.ws:=by
   rintro rfl fP;replace h:(Rd.ret (⟨b,dw o vy⟩:o7)).val σ=ab e:=by
    cases vy with
    |un=>exact h
    |gM l=>cases l with
     |nil=>exact bS rfl fP
     |cons=>exact h
    |v g xs=>cases g<;>(rcases xs with _|⟨⟨⟩,_|⟨_,_⟩⟩<;>exact h)
   obtain rfl:=aq h;have hb:b=true:=hc;subst hb;exact eT bI cU hd ey ky (run ae ex)
  cases vy with
  |un=>cases vz with
   |un=>simp at h
   |gM l=>cases l with
    |nil=>exact rgt rfl (by simp)
    |cons=>simp at h
   |v=>simp at h
  |gM l=>cases l with
   |nil=>exact lft rfl
   |cons=>cases vz with
    |un=>simp at h
    |gM l2=>cases l2 with
     |nil=>exact rgt rfl (by simp)
     |cons=>simp at h
    |v=>simp at h
  |v g xs=>cases vz with
   |un=>simp at h
   |gM l2=>cases l2 with
    |nil=>exact rgt rfl (by simp)
    |cons=>simp at h
   |v g2 ys=>cases g<;>cases g2<;>rcases xs with _|⟨⟨⟩,_|⟨_,_⟩⟩<;>rcases ys with _|⟨⟨⟩,_|⟨_,_⟩⟩<;>first|(simp at h;done)|exact both _ _ rfl rfl
 |i=>simp at h
 |s=>simp at h
 |sh=>simp at h
 |nl=>simp at h
 |own=>simp at h
 |vw=>simp at h
 |bp=>simp at h
 |rp=>simp at h
 |sp=>simp at h
 |inn=>simp at h
 |ip=>simp at h
 |fn=>simp at h
 |fp=>simp at h
theorem Oz(hE:dv P E)(bI:Ok E σ w c)(cU:dX E σ a w c)(hd:∀d,o.dst=ab d->d<a.tmps.size){t:au}{p:cL}(ho:o.op= .load t p)(h:(jz E nm o).val σ=ab e):e7 P E σ a w c o e.ws:=by
 simp only[jz,ho]at h;obtain⟨ti,h1,h⟩:=Rd.bind_some h;obtain⟨pv,h2,h⟩:=Rd.bind_some h;obtain⟨xs,h3,h⟩:=Rd.bind_some h;have ht:=de h1;obtain⟨ep,_⟩:=gd cU h2;obtain⟨⟨b,of,cs,hv,hl,hcell,hlen,Ml⟩,B5⟩:=KA bI ep h3;have hr:=xH (P:=P) w hE ht hl hcell;refine eC bI cU hd h (v:=if ti.agg=ae then .agg cs.toArray else cs.headD .nilIface) ?_ (λn hn=>by obtain⟨x,hx,hn⟩:=bg.1 hn;exact B5 x hx n hn) ?_
 ·show m9 E w c ti.agg xs _;cases p8:ti.agg with
  |true=>rw[br rfl];exact⟨cs.toArray,rfl,by simp[hl,hlen],λj x hj=>by obtain⟨u,hu,hx⟩:=Ml j x hj;exact⟨u,by simpa using hu,hx⟩⟩
  |false=>
   obtain⟨d,_,_,hn⟩:=hE.desc t ti ht;have h1:ti.ks.length=1:=by rcases hn p8 with ⟨k,h,_⟩|⟨h,_⟩|⟨h,_⟩|⟨e',h,_⟩|⟨h,_⟩<;>simp[h]
   obtain⟨x,rfl⟩:=e8.1 (hlen.trans h1);obtain⟨v,rfl⟩:=e8.1 (hl.trans h1);obtain⟨u,hu,hx⟩:=Ml 0 x rfl;simp at hu;subst hu;simpa [m9]using hx
 ·unfold execOp;rw[ho];exact fY (by rw[hv];exact hr)
theorem AJ(hE:dv P E)(bI:Ok E σ w c)(cU:dX E σ a w c)(hd:∀d,o.dst=ab d->d<a.tmps.size){t f:au}{p:cL}(ho:o.op= .fieldAddr t p f)(h:(jz E nm o).val σ=ab e):e7 P E σ a w c o e.ws:=by
 simp only[jz,ho]at h;obtain⟨pv,h1,h⟩:=Rd.bind_some h;obtain⟨q,h2,h⟩:=Rd.bind_some h;obtain⟨ep,kp⟩:=gd cU h1;unfold JL at h2;cases hf:E.fo t f with
 |none=>rw[hf]at h2;simp at h2
 |some r=>
  obtain⟨off,n⟩:=r;rw[hf]at h2;have run:∀b o',a.eval p= .pointer (ab (ad b o'))->(execOp a.eval o).run P w= .ok (.value (.pointer (ab (ad b (o'+off))))) w:=by intro b o' hp;unfold execOp;rw[ho];exact fY (by rw[hp];exact CB (P:=P) w hE hf b o')
  cases pv with
  |bp fI j=>obtain rfl:=aq h2;exact eC bI cU hd h (s:= .v ah [.bp fI (j+off)]) (v:= .pointer (ab (ad (c.P fI).blk (j+off)))) rfl (λn hn=>kp n (by simpa [bO,bh]using hn)) (run _ _ ep)
  |rp fI i j=>obtain rfl:=aq h2;refine eC bI cU hd h (s:= .v ah [.rp fI i (j+off)]) ?_ (λn hn=>kp n (by simpa [bO,bh]using hn)) (run _ _ ep.2);exact⟨ep.1,by rw[show(c.P fI).off+i*(c.P fI).sz+j+off=(c.P fI).off+i*(c.P fI).sz+(j+off)by omega]⟩
  |sp e2 xs i j=>obtain rfl:=aq h2;obtain⟨b,o',cp,ti,e1,Na,e3,e4⟩:=ep;refine eC bI cU hd h (s:= .v ah [.sp e2 xs i (j+off)]) ?_ (λn hn=>by simp[bO,bh]at hn) (run _ _ e4);exact⟨b,o',cp,ti,e1,Na,e3,by rw[show o'+i*ti.ks.length+j+off=o'+i*ti.ks.length+(j+off)by omega]⟩
  |ip fI i j i2 j2=>obtain rfl:=aq h2;refine eC bI cU hd h (s:= .v ah [.ip fI i j i2 (j2+off)]) ?_ (λn hn=>kp n (by simpa [bO,bh]using hn)) (run _ _ ep.1.2.2);exact⟨⟨ep.1.1,ep.1.2.1,by rw[show(c.G fI i j).off+i2*(c.G fI i j).sz+j2+off=(c.G fI i j).off+i2*(c.G fI i j).sz+(j2+off)by omega]⟩,ep.2⟩
  |fp cs j=>obtain rfl:=aq h2;obtain⟨b,e1,Na⟩:=ep;exact eC bI cU hd h (s:= .v ah [.fp cs (j+off)]) ⟨b,rfl,Na⟩ (λn hn=>by simp[bO,bh]at hn) (run _ _ e1)
  |i=>simp at h2
  |b=>simp at h2
  |s=>simp at h2
  |sh=>simp at h2
  |nl=>simp at h2
  |own=>simp at h2
  |vw=>simp at h2
  |inn=>simp at h2
  |fn=>simp at h2
theorem Ec(bI:Ok E σ w c)(cU:dX E σ a w c)(hd:∀d,o.dst=ab d->d<a.tmps.size){x:cL}{i:au}(ho:o.op= .extract x i)(h:(jz E nm o).val σ=ab e):e7 P E σ a w c o e.ws:=by
 simp only[jz,ho]at h;obtain⟨v,h1,h⟩:=Rd.bind_some h;obtain⟨ev,kv⟩:=jH cU h1;split at h
 ·rename_i l;split at h
  ·rename_i agg xs hl;obtain⟨vs,e1,e2,e3⟩:=ev;obtain⟨u,hu,hv⟩:=e3 i agg xs hl;refine eC bI cU hd h (v:=u) hv (λn hn=>kv n (bg.2 ⟨(agg,xs),aD hl,hn⟩)) ?_;unfold execOp;rw[ho];refine fY ?_;rw[e1];simp only[Instr.extract,hu];rfl
  ·simp at h
 ·simp at h
theorem OB(bI:Ok E σ w c)(cU:dX E σ a w c)(hd:∀d,o.dst=ab d->d<a.tmps.size){x:cL}{op:UnOp}{t:au}(ho:o.op= .unOp op t x)(h:(jz E nm o).val σ=ab e):e7 P E σ a w c o e.ws:=by
 simp only[jz,ho]at h;obtain⟨v,h1,h⟩:=Rd.bind_some h;obtain⟨ev,kv⟩:=gd cU h1;cases op with
 |not=>
  cases v with
  |b b=>refine eC bI cU hd h (v:= .bool !b) rfl (λn hn=>by simp[bO,bh]at hn) ?_;unfold execOp;rw[ho];refine fY ?_;rw[show a.eval x= .bool b from ev];rfl
  |_=>simp at h
 |neg=>
  cases v with
  |i k n=>refine eC bI cU hd h (v:= .int k (k.wrap (0-n))) rfl (λn hn=>by simp[bO,bh]at hn) ?_;unfold execOp;rw[ho];refine fY ?_;rw[show a.eval x= .int k n from ev];rfl
  |_=>simp at h
 |_=>cases v<;>simp at h
theorem od{E:eh}{σ:St}{t:au}{k:Ck}(h:(mT E t).val σ=ab k):∃ti,E.ty t=ab ti/\ti.agg=ah/\ti.ks=[k]:=by
 obtain⟨ti,h1,h2⟩:=Rd.bind_some h;split at h2
 ·rename_i k' h3 h4;simp at h2;subst h2;exact⟨ti,de h1,h3,h4⟩
 ·simp at h2
theorem iD{E:eh}{σ:St}(hE:dv P E){t e:au}(h:(mT E t).val σ=ab (.l e)):P.underlying t=ab (.slice e):=by obtain⟨ti,h1,h2,h3⟩:=od h;exact me hE h1 h2 h3
theorem iR{E:eh}{σ:St}(hE:dv P E){t:au}(h:(mT E t).val σ=ab .s):P.underlying t=ab .string:=by obtain⟨ti,h1,h2,h3⟩:=od h;obtain⟨d,hd,_,hn⟩:=hE.desc t ti h1;rcases hn h2 with ⟨k,h,_⟩|⟨h,_⟩|⟨h,rfl⟩|⟨e',h,_⟩|⟨h,_⟩<;>rw[h3]at h<;>simp_all
theorem KQ(hE:dv P E)(bI:Ok E σ w c)(cU:dX E σ a w c)(hd:∀d,o.dst=ab d->d<a.tmps.size){x y:cL}{t:au}(ho:o.op= .index t x y)(h:(jz E nm o).val σ=ab e)(hc:e.cond=ae):e7 P E σ a w c o e.ws:=by
 simp only[jz,ho]at h;obtain⟨kk,h0,h⟩:=Rd.bind_some h;obtain⟨v,h1,h⟩:=Rd.bind_some h;obtain⟨⟨k,n⟩,h2,h⟩:=Rd.bind_some h;obtain⟨ev,kv⟩:=gd cU h1;have ei:=mU cU h2;cases kk with
 |s=>cases v with
  |s s=>
   have hu:=iR hE h0;refine zu bI cU hd h hc (v:= .int .u8 ((s.data.getD n.toNat 0).toNat:ax)) (λ_=>rfl) (qa rfl) (λhb=> ?_);simp only[az,a9]at hb;obtain⟨h0,h3⟩:=hb;unfold execOp;rw[ho];refine fY ?_;replace ev:a.eval x= .string s:=ev.1;have ix:n.toNat<s.size:=by omega
   have hg:s[n.toNat]? =ab s[n.toNat]:=by simp[ix]
   have hs:s[n.toNat]=s.data.getD n.toNat 0:=by rw[Array.getD,dif_pos (show n.toNat<s.data.size from ix)];rfl
   simp only[ev,ei,Instr.index,asIntOf,bJ,bV,ba,run_underlying hu,h0,if_true,hg,hs]
  |_=>simp at h
 |_=>simp at h
end
end Go.FG

namespace Go.FG
section
variable {P:b9} {E:eh} {σ:St} {a:Act} {w:bf} {c:dJ} {o:dU} {nm:au} {e:o7}
theorem nu{α:Type}{b:aL}{x:α}{σ:St}{r:α}(h:(bif b then Rd.ret x else Rd.fail).val σ=ab r):b=ae/\r=x:=by obtain⟨h1,h2⟩:=bQ h;exact⟨h1,(aq h2).symm⟩
theorem dK{p:Pl}(h:p.nil=ah):jj p= .slice (ab (ad p.blk p.off)) p.n p.cap:=by unfold jj;rw[bF (by simp[h])]
theorem kK{p:Pl}(h:p.nil=ae):jj p= .slice af 0 0:=by unfold jj;rw[br h]
theorem iS{nm e:au}{ex:aL}{xs:aY}(bI:Ok E σ w c)(h:σ (cf nm)= .o (.row e ex xs)):
  (c.P nm).n=xs.length/\((c.P nm).nil=ae->xs=[])/\∃ti,E.ty e=ab ti/\(c.P nm).sz=ti.ks.length/\((c.P nm).nil=ah->(c.P nm).n<=(c.P nm).cap/\(c.P nm).cap<=maxLen):=by have j4:=bI.obj nm _ h;obtain⟨ti,h1,h2,_⟩:=j4.sh;exact⟨j4.at_.n,λhn=>(j4.at_.nil hn).1,ti,h1,h2,λhn=>by obtain⟨_,_,h3,h4,_⟩:=j4.at_.mem hn;exact⟨h3,h4⟩⟩
theorem j6{nm e:au}{xs:aY}(bI:Ok E σ w c)(h:σ (cf nm)= .o (.ej e xs)):
  (c.P nm).n=xs.length/\((c.P nm).nil=ae->xs=[])/\∃ti,E.ty e=ab ti/\(c.P nm).sz=ti.ks.length:=by
 obtain⟨h1,h2,h3⟩:=bI.obj nm _ h;refine⟨h2,λhn=> ?_,h3⟩
 rw[kK hn]at h1;cases h1;rfl
theorem AK(hE:dv P E)(bI:Ok E σ w c)(cU:dX E σ a w c)(hd:∀d,o.dst=ab d->d<a.tmps.size){x y:cL}{t:au}(ho:o.op= .indexAddr t x y)(h:(jz E nm o).val σ=ab e)(hc:e.cond=ae):e7 P E σ a w c o e.ws:=by
 simp only[jz,ho]at h;obtain⟨kk,h0,h⟩:=Rd.bind_some h;cases kk with
 |l el=>
  obtain⟨v,h1,h⟩:=Rd.bind_some h;obtain⟨⟨k,n⟩,h2,h⟩:=Rd.bind_some h;obtain⟨⟨b,q⟩,h3,h⟩:=Rd.bind_some h;obtain⟨ev,kv⟩:=gd cU h1;have ei:=mU cU h2;have hu:=iD hE h0;have run:∀te b o' m cp,E.ty el=ab te->a.eval x= .slice (ab (ad b o')) m cp->0<=n->n<(m:ax)->(execOp a.eval o).run P w= .ok (.value (.pointer (ab (ad b (o'+n.toNat*te.ks.length))))) w:=by intro te b o' m cp DY hx h0 h1;unfold execOp;rw[ho];refine fY ?_;rw[hx,ei];exact CC (P:=P) w hE hu DY b o' m cp k n h0 h1
  cases v with
  |sh e' xs=>
   obtain⟨yh,h3⟩:=nu h3;obtain⟨rfl,rfl⟩:=bn h3;have:=aJ yh;subst this;obtain rfl:=aq h;have hc:(decide (0<=n)&&decide (n<(xs.length:ax)))=true:=hc;simp only[az,a9]at hc;obtain⟨c0,c1⟩:=hc;have ev:ch E w c.K (a.eval x) (.l el xs):=ev;generalize hv:a.eval x=v at ev;have fP:0<xs.length:=by omega
   cases ev with
   |nl=>simp at fP
   |l _ _ bb oo cc ti U ht G4 UE hK hs hcell fO=>exact eT bI cU hd (s:= .v ah [.sp el xs n.toNat 0]) (v:= .pointer (ab (ad bb (oo+n.toNat*ti.ks.length)))) ⟨bb,oo,cc,ti, .l el xs bb oo cc ti U ht G4 UE hK hs hcell fO,by omega,ht,rfl⟩ (λn hn=>by simp[bO,bh]at hn) (run ti bb oo _ cc ht hv c0 c1)
  |own fI=>
   obtain⟨ob,hg,h3⟩:=Rd.bind_some h3;have hg:=cM hg;have main:∀(xs:aY),(c.P fI).n=xs.length->((c.P fI).nil=ae->xs=[])->(∃ti,E.ty el=ab ti/\(c.P fI).sz=ti.ks.length)->(b,q)=(decide (0<=n)&&decide (n<(xs.length:ax)),AV.rp fI n.toNat 0)->e7 P E σ a w c o e.ws:=by
    intro xs hn gH NK hbq;obtain⟨rfl,rfl⟩:=bn hbq;obtain rfl:=aq h;have hc:(decide (0<=n)&&decide (n<(xs.length:ax)))=true:=hc;simp only[az,a9]at hc;obtain⟨c0,c1⟩:=hc;obtain⟨ti,ht,eM⟩:=NK;have G7:(c.P fI).nil=false:=by
     cases hq:(c.P fI).nil with
     |false=>rfl
     |true=>rw[gH hq]at c1;simp at c1;omega
    have hx:a.eval x= .slice (ab (ad (c.P fI).blk (c.P fI).off)) (c.P fI).n (c.P fI).cap:=by rw[<-dK G7];exact ev
    refine eT bI cU hd (s:= .v ah [.rp fI n.toNat 0]) (v:= .pointer (ab (ad (c.P fI).blk ((c.P fI).off+n.toNat*ti.ks.length)))) ⟨by omega,by rw[eM];rfl⟩ (λm hm=>by simp[bO,bh]at hm;subst hm;rw[hg];simp) (run ti _ _ _ _ ht hx c0 (by rw[hn];exact c1))
   cases ob with
   |row e' ex xs=>obtain⟨yh,h4⟩:=nu h3;have:=aJ yh;subst this;obtain⟨i1,i2,ti,i3,i4,_⟩:=iS bI hg;exact main xs i1 i2 ⟨ti,i3,i4⟩ h4
   |ej e' xs=>obtain⟨yh,h4⟩:=nu h3;have:=aJ yh;subst this;obtain⟨i1,i2,i3⟩:=j6 bI hg;exact main xs i1 i2 i3 h4
   |_=>simp at h3
  |vw fI lo hi=>
   obtain⟨ob,hg,h3⟩:=Rd.bind_some h3;have hg:=cM hg;have main:∀(xs:aY),(c.P fI).n=xs.length->(∃ti,E.ty el=ab ti/\(c.P fI).sz=ti.ks.length)->(b,q)=(decide (0<=n)&&decide (n<((hi-lo:au):ax)),AV.rp fI (lo+n.toNat) 0)->e7 P E σ a w c o e.ws:=by
    intro xs hn NK hbq;obtain⟨rfl,rfl⟩:=bn hbq;obtain rfl:=aq h;have hc:(decide (0<=n)&&decide (n<((hi-lo:au):ax)))=true:=hc;simp only[az,a9]at hc;obtain⟨c0,c1⟩:=hc;obtain⟨ti,ht,eM⟩:=NK;obtain⟨v1,v2,v3,v4⟩:=ev;have G7:(c.P fI).nil=false:=by
     cases hq:(c.P fI).nil with
     |false=>rfl
     |true=>
      obtain⟨f1,_⟩:(c.P fI).n=0/\True:=by
       have j4:=bI.obj fI _ hg;rw[hn];cases ob with
       |row e' ex ys=>obtain⟨j1,j2,_⟩:=iS bI hg;rw[<-hn,j1,j2 hq];simp
       |ej e' ys=>obtain⟨j1,j2,_⟩:=j6 bI hg;rw[<-hn,j1,j2 hq];simp
       |_=>simp at h3
      omega
    rcases v4 G7 with ⟨u1,hx⟩|⟨u1,oo,u2,hx⟩
    ·refine eT bI cU hd (s:= .v ah [.rp fI (lo+n.toNat) 0]) (v:= .pointer (ab (ad (c.P fI).blk ((c.P fI).off+lo*(c.P fI).sz+n.toNat*ti.ks.length)))) ⟨by omega, ?_⟩ (λm hm=>by simp[bO,bh]at hm;subst hm;rw[hg];simp) (run ti _ _ _ _ ht hx c0 c1);rw[<-eM,show(c.P fI).off+(lo+n.toNat)*(c.P fI).sz+0=(c.P fI).off+lo*(c.P fI).sz+n.toNat*(c.P fI).sz by rw[cB];omega]
    ·exfalso;have G4:(c.P fI).n<=(c.P fI).cap:=by
      cases ob with
      |row e' ex ys=>obtain⟨_,_,_,_,_,j⟩:=iS bI hg;exact(j G7).1
      |ej e' ys=>
       obtain⟨j1,j2,_⟩:=bI.obj fI _ hg;rw[dK G7]at j1;by_cases hz:0<ys.length
       ·obtain⟨t3,U,L⟩:=j1.Cf hz;rw[j2];exact L.cap
       ·omega
      |_=>simp at h3
     omega
   cases ob with
   |row e' ex xs=>obtain⟨yh,h4⟩:=nu h3;have:=aJ yh;subst this;obtain⟨i1,i2,ti,i3,i4,_⟩:=iS bI hg;exact main xs i1 ⟨ti,i3,i4⟩ h4
   |ej e' xs=>obtain⟨yh,h4⟩:=nu h3;have:=aJ yh;subst this;obtain⟨i1,i2,i3⟩:=j6 bI hg;exact main xs i1 i3 h4
   |_=>simp at h3
  |inn fI i j=>
   obtain⟨ob,hg,h3⟩:=Rd.bind_some h3;have hg:=cM hg;cases ob with
   |row e' ex xs=>
    cases ex with
    |false=>simp at h3
    |true=>
     obtain⟨te,ht,h3⟩:=Rd.bind_some h3;have ht:=de ht;split at h3
     ·rename_i e2 wP;obtain⟨yh,h3⟩:=nu h3;obtain⟨rfl,rfl⟩:=bn h3;have:=aJ yh;subst this;obtain rfl:=aq h;obtain⟨⟨nc,hx⟩,hFv⟩:=ev;obtain⟨⟨tj,Tf,eM,jR⟩,eI,_⟩:=bI.obj fI _ hg;obtain rfl:te=tj:=aq (ht.symm.trans Tf);obtain⟨zs,y',hy,Ti,uu,_,tk,Aw,oW,DX,yl,lL⟩:=qf (c:=c) eI jR nc wP;have hc:(decide (0<=n)&&decide (n<((ia (ao xs i j)).length:ax)))=true:=hc;rw[dY hy Ti]at hc;simp only[az,a9]at hc;obtain⟨c0,c1⟩:=hc;have c1:n<(zs.length:ax):=c1;have G7:(c.G fI i j).nil=false:=by
       cases hq:(c.G fI i j).nil with
       |false=>rfl
       |true=>have:=(lL.nil hq).1;subst this;simp at c1;omega
      rw[dK G7]at hx;refine eT bI cU hd (s:= .v ah [.ip fI i j n.toNat 0]) (v:= .pointer (ab (ad (c.G fI i j).blk ((c.G fI i j).off+n.toNat*tk.ks.length)))) ⟨⟨nc,by rw[lL.n];omega,by rw[DX];rfl⟩,hFv⟩ (λm hm=>by simp[bO,bh]at hm;subst hm;rw[hg];simp) (run tk _ _ _ _ Aw hx c0 (by rw[lL.n];exact c1))
     ·simp at h3
   |_=>simp at h3
  |_=>simp[Kg]at h3
 |_=>simp at h
end
end Go.FG

namespace Go.FG
section
variable {P:b9} {E:eh} {σ:St} {a:Act} {w:bf} {c:dJ} {o:dU} {nm:au} {e:o7}
theorem vE(cU:dX E σ a w c){x:ar cL}{d n:ax}(h:(lr x d).val σ=ab n):(x=af/\n=d)\/∃y k,x=ab y/\a.eval y= .int k n:=by
 cases x with
 |none=>exact .inl ⟨rfl,(aq h).symm⟩
 |some y=>obtain⟨⟨k,m⟩,h1,h2⟩:=Rd.bind_some h;obtain rfl:=aq h2;exact .inr ⟨y,k,rfl,mU cU h1⟩
theorem zq{x:aR}{k:ki}{n:ax}{y:au}{code:BoundsCode}(hx:x= .int k n)(h0:0<=n)(h1:n<=y):(nJ x y code).run P w= .ok n.toNat w:=by subst hx;simp only[nJ,asIntOf,bJ,bV,ba,h0,h1,and_self,if_true]
theorem xE(cU:dX E σ a w c){isS:aL}{len cap:au}{lo hi:ar cL}{l h:ax}(hl:(lr lo 0).val σ=ab l)(hh:(lr hi len).val σ=ab h)(h0:0<=l)(h1:l<=h)(h2:h<=cap):
  (j8 isS len cap (lo.map a.eval) (hi.map a.eval) af).run P w= .ok (l.toNat,h.toNat,cap) w:=by
 have low:∀v,lo=ab v->∀code,(nJ (a.eval v) h.toNat code).run P w= .ok l.toNat w:=by
  intro v hv code;rcases vE cU hl with ⟨hx,_⟩|⟨y,k,hx,hy⟩
  ·rw[hx]at hv;cases hv
  ·rw[hx]at hv;cases hv;exact zq hy h0 (by omega)
 have high:∀v,hi=ab v->∀code,(nJ (a.eval v) cap code).run P w= .ok h.toNat w:=by
  intro v hv code;rcases vE cU hh with ⟨hx,_⟩|⟨y,k,hx,hy⟩
  ·rw[hx]at hv;cases hv
  ·rw[hx]at hv;cases hv;exact zq hy (by omega) h2
 have l0:lo=af->l=0:=λhx=>by rcases vE cU hl with ⟨_,hn⟩|⟨y,k,hy,_⟩;exact hn;rw[hx]at hy;cases hy
 have Mj:hi=af->h=len:=λhx=>by rcases vE cU hh with ⟨_,hn⟩|⟨y,k,hy,_⟩;exact hn;rw[hx]at hy;cases hy
 cases lo with
 |none=>
  obtain rfl:=l0 rfl;cases hi with
  |none=>obtain rfl:=Mj rfl;simp[j8]
  |some v=>simp[j8,high v rfl]
 |some u=>
  cases hi with
  |none=>obtain rfl:=Mj rfl;have:=low u rfl;simp only[gY]at this;simp[j8,this]
  |some v=>simp[j8,high v rfl,low u rfl]
theorem El{t:au}(hu:P.underlying t=ab .string)(cU:dX E σ a w c){lo hi:ar cL}{l h:ax}{s:ai}(hl:(lr lo 0).val σ=ab l)(hh:(lr hi s.size).val σ=ab h)(h0:0<=l)(h1:l<=h)(h2:h<=(s.size:ax)):
  (ni t (.string s) (lo.map a.eval) (hi.map a.eval) af).run P w= .ok (.string (s.extract l.toNat h.toNat)) w:=by simp only[ni,RA,bJ,run_underlying hu,ba,Option.isSome_none,cJ,if_false,xE (P:=P) cU hl hh h0 h1 h2,bV]
theorem iG{t el:au}{te:TI}(hE:dv P E)(hu:P.underlying t=ab (.slice el))(he:E.ty el=ab te)(cU:dX E σ a w c){lo hi:ar cL}{l h:ax}{A:ar Addr}{n cp:au}(hl:(lr lo 0).val σ=ab l)(hh:(lr hi n).val σ=ab h)(h0:0<=l)(h1:l<=h)(h2:h<=(cp:ax)):
  (ni t (.slice A n cp) (lo.map a.eval) (hi.map a.eval) af).run P w= .ok (.slice (if cp=l.toNat then A else A.map (·.add (l.toNat*te.ks.length))) (h.toNat-l.toNat) (cp-l.toNat)) w:=by obtain⟨inf,jw,eM,_⟩:=hE.info el te he;simp only[ni,RA,bJ,run_underlying hu,ba,xE (P:=P) cU hl hh h0 h1 h2,sizeOf,typeInfo,program,kj,jw,eM,bV]
theorem pO{xs:aY}{lo hi i:au}:(dM xs lo hi)[i]? =if i<hi-lo then xs[lo+i]? else none:=by unfold dM;rw[dj];split<;>simp[c7]
theorem jK{xs:aY}{lo hi:au}(h:hi<=xs.length):(dM xs lo hi).length=hi-lo:=by unfold dM;simp;omega
theorem wX{xs:aY}{lo hi:au}{y:ak CV}(h:y∈dM xs lo hi):y∈xs:=iM (iN h)
theorem Ro{K:au->Prop}{v:aR}{el:au}{xs:aY}{te:TI}(he:E.ty el=ab te)(h:ch E w K v (.l el xs)){lo hi:au}(h1:lo<=hi)(h2:hi<=xs.length):
  ∃A n cp,v= .slice A n cp/\n=xs.length/\n<=cp\/∃A cp,v= .slice A 0 cp/\xs=[]:=by
 cases h with
 |nl=>exact⟨af,0,0, .inr ⟨_,_,rfl,rfl⟩⟩
 |l _ _ b oo cp ti U ht hc=>exact⟨_,_,_, .inl ⟨rfl,rfl,hc⟩⟩
theorem zb{K:au->Prop}{A:ar Addr}{n cp el:au}{xs:aY}{te:TI}(he:E.ty el=ab te)(h:ch E w K (.slice A n cp) (.l el xs)){lo hi:au}(h1:lo<=hi)(h2:hi<=xs.length):
  n=xs.length/\ch E w K (.slice (if cp=lo then A else A.map (·.add (lo*te.ks.length))) (hi-lo) (cp-lo)) (.l el (dM xs lo hi)):=by
 generalize hv:RB A n cp=v at h;generalize hx:CV.l el xs=x at h;cases h with
 |i=>cases hx
 |b=>cases hx
 |s=>cases hx
 |nl=>
  cases hx;cases hv;have:hi=0:=by simpa using h2
  subst this;have:lo=0:=by omega
  subst this;exact⟨rfl, .nl _ _ _⟩
 |l _ _ b oo cp ti U ht hc hm hK hs hcell fO=>
  cases hx;cases hv;refine⟨rfl, ?_⟩
  obtain rfl:te=ti:=aq (he.symm.trans ht);by_cases hz:hi-lo=0
  ·rw[hz];have:dM xs lo hi=[]:=by unfold dM;rw[hz];simp
   rw[this];exact .nl _ _ _
  ·rw[bF (by omega)];simp only[gm,Addr.ld];have hl:=jK (xs:=xs) (lo:=lo) h2;rw[<-hl];refine .l el (dM xs lo hi) b (oo+lo*te.ks.length) (cp-lo) te (λi j=>U (lo+i) j) ht (by rw[hl];omega) (by omega) hK (λy hy=>hs y (wX hy)) (λi j y x jw hj=> ?_) (λi j y x jw hj=> ?_)
   ·rw[pO]at jw;split at jw
    ·have:=hcell (lo+i) j y x jw hj;rw[<-this];congr 2;rw[cB];omega
    ·cases jw
   ·rw[pO]at jw;split at jw
    ·exact fO (lo+i) j y x jw hj
    ·cases jw
theorem KR(hE:dv P E)(bI:Ok E σ w c)(cU:dX E σ a w c)(hd:∀d,o.dst=ab d->d<a.tmps.size){x:cL}{t:au}{lo hi mx:ar cL}(ho:o.op= .slice t x lo hi mx)(h:(jz E nm o).val σ=ab e)(hc:e.cond=ae):e7 P E σ a w c o e.ws:=by
 simp only[jz,ho]at h;cases mx with
 |some m=>simp at h
 |none=>
 obtain⟨kk,hk,h⟩:=Rd.bind_some h;obtain⟨v,h1,h⟩:=Rd.bind_some h;obtain⟨⟨b,q⟩,h3,h⟩:=Rd.bind_some h;obtain⟨ev,kv⟩:=gd cU h1;have exec:∀{u r:aR},a.eval x=u->(ni t u (lo.map a.eval) (hi.map a.eval) af).run P w= .ok r w->(execOp a.eval o).run P w= .ok (.value r) w:=by intro u r hu hr;unfold execOp;rw[ho];exact fY (by rw[hu];exact hr)
 cases kk with
 |s=>cases v with
  |s s=>have hu:=iR hE hk;obtain⟨l,hl,h3⟩:=Rd.bind_some h3;obtain⟨hh,uY,h3⟩:=Rd.bind_some h3;obtain⟨rfl,rfl⟩:=bn (aq h3);obtain rfl:=aq h;have hc:iV l hh s.size=true:=hc;simp only[iV,az,a9]at hc;obtain⟨⟨c0,c1⟩,c2⟩:=hc;exact eT bI cU hd (s:= .v ah [.s _]) (v:= .string _) ⟨rfl,by have h5:=ev.2;unfold Ox at h5⊢;rw[O8];omega⟩ (λn hn=>by simp[bO,bh]at hn) (exec ev.1 (El (P:=P) hu cU hl uY c0 c1 c2))
  |_=>simp[Er]at h3
 |l el=>
  have hu:=iD hE hk;obtain⟨te,DY,h3⟩:=Rd.bind_some h3;have DY:=de DY;cases v with
  |sh e' xs=>
   obtain⟨yh,h4⟩:=bQ h3;have:=aJ yh;subst this;obtain⟨l,hl,h4⟩:=Rd.bind_some h4;obtain⟨hh,uY,h4⟩:=Rd.bind_some h4;obtain⟨rfl,rfl⟩:=bn (aq h4);obtain rfl:=aq h;have hc:iV l hh xs.length=true:=hc;simp only[iV,az,a9]at hc;obtain⟨⟨c0,c1⟩,c2⟩:=hc;have ev:ch E w c.K (a.eval x) (.l el xs):=ev;generalize hv:a.eval x=v at ev;cases ev with
   |nl _ A cp=>
    have h0:hh=0:=by simp at c2;omega
    have l0:l=0:=by omega
    subst h0;subst l0;have hr:=iG (P:=P) (te:=te) hE hu DY cU (A:=A) (n:=0) (cp:=cp) hl uY (by omega) (by omega) (by omega);exact eT bI cU hd (s:= .v ah [.sh el (dM [] (0:ax).toNat (0:ax).toNat)]) (.nl _ _ _) (λn hn=>by simp[bO,bh]at hn) (exec hv hr)
   |l _ _ bb oo cp ti U ht G4 UE hK hs hcell fO=>have hr:=iG (P:=P) (te:=ti) hE hu ht cU (A:=ab (ad bb oo)) (cp:=cp) hl uY c0 c1 (by omega);have abw:=(zb (lo:=l.toNat) (hi:=hh.toNat) ht (.l el xs bb oo cp ti U ht G4 UE hK hs hcell fO) (by omega) (by omega)).2;exact eT bI cU hd (s:= .v ah [.sh el (dM xs l.toNat hh.toNat)]) abw (λn hn=>by simp[bO,bh]at hn) (exec hv hr)
  |own fI=>
   obtain⟨ob,hg,h3⟩:=Rd.bind_some h3;have hg:=cM hg
   have main:∀(xs:aY),(c.P fI).n=xs.length->((c.P fI).nil=ae->xs=[])->(∃ti,E.ty el=ab ti/\(c.P fI).sz=ti.ks.length)->((c.P fI).nil=ah->(c.P fI).n<=(c.P fI).cap)->
     ((lr lo 0).bind λl=>(lr hi xs.length).bind λh=>Rd.ret (iV l h xs.length,AV.vw fI l.toNat h.toNat)).val σ=ab (b,q)->e7 P E σ a w c o e.ws:=by
    intro xs hn gH NK V0 h4
    obtain⟨l,hl,h4⟩:=Rd.bind_some h4
    obtain⟨hh,uY,h4⟩:=Rd.bind_some h4
    obtain⟨rfl,rfl⟩:=bn (aq h4)
    obtain rfl:=aq h
    have hc:iV l hh xs.length=true:=hc
    simp only[iV,az,a9]at hc
    obtain⟨⟨c0,c1⟩,c2⟩:=hc
    obtain⟨ti,ht,eM⟩:=NK
    have ev:a.eval x=jj (c.P fI):=ev
    cases hq:(c.P fI).nil with
    |true=>
     rw[kK hq]at ev;have hx:=gH hq;subst hx;have h0:hh=0:=by simp at c2;omega
     have l0:l=0:=by omega
     subst h0;subst l0;have hr:=iG (P:=P) (te:=ti) hE hu ht cU (A:=af) (n:=0) (cp:=0) hl uY (by omega) (by omega) (by simp);refine eT bI cU hd (s:= .v ah [.vw fI 0 0]) (v:= .slice af 0 0) ⟨cD _,bT _,λ_=>rfl,λhf=>by rw[hq]at hf;cases hf⟩ (λm hm=>by simp[bO,bh]at hm;subst hm;rw[hg];simp) (exec ev (by simpa using hr))
    |false=>
     rw[dK hq]at ev;have V0:=V0 hq;have hr:=iG (P:=P) (te:=ti) hE hu ht cU (A:=ab (ad (c.P fI).blk (c.P fI).off)) (n:=(c.P fI).n) (cp:=(c.P fI).cap) hl (by rw[hn];exact uY) c0 c1 (by omega);refine eT bI cU hd (s:= .v ah [.vw fI l.toNat hh.toNat]) ⟨by omega,by omega,λhf=>(by rw[hq]at hf;cases hf),λ_=> ?_⟩ (λm hm=>by simp[bO,bh]at hm;subst hm;rw[hg];simp) (exec ev hr);by_cases hle:(c.P fI).cap=l.toNat
     ·refine .inr ⟨hle.symm,(c.P fI).off,by omega, ?_⟩;rw[br hle,show hh.toNat-l.toNat=0 by omega,show(c.P fI).cap-l.toNat=0 by omega]
     ·refine .inl ⟨by omega, ?_⟩;rw[bF hle];simp only[gm,Addr.ld,eM]
   cases ob with
   |row e' ex xs=>obtain⟨yh,h4⟩:=bQ h3;have:=aJ yh;subst this;obtain⟨i1,i2,ti,i3,i4,i5⟩:=iS bI hg;exact main xs i1 i2 ⟨ti,i3,i4⟩ (λh=>(i5 h).1) h4
   |ej e' xs=>
    obtain⟨yh,h4⟩:=bQ h3;have:=aJ yh;subst this;obtain⟨i1,i2,i3⟩:=j6 bI hg;refine main xs i1 i2 i3 (λG7=> ?_) h4;obtain⟨j1,j2,_⟩:=bI.obj fI _ hg;rw[dK G7]at j1;by_cases hz:0<xs.length
    ·obtain⟨t3,U,L⟩:=j1.Cf hz;rw[j2];exact L.cap
    ·omega
   |_=>simp at h3
  |vw fI yp B1=>
   obtain⟨ob,hg,h3⟩:=Rd.bind_some h3;have hg:=cM hg
   have main:(∃ti,E.ty el=ab ti/\(c.P fI).sz=ti.ks.length)->((c.P fI).nil=ae->(c.P fI).n=0)->((c.P fI).nil=ah->(c.P fI).n<=(c.P fI).cap)->
     ((lr lo 0).bind λl=>(lr hi ((B1-yp:au):ax)).bind λh=>Rd.ret (iV l h ((B1-yp:au):ax),AV.vw fI (yp+l.toNat) (yp+h.toNat))).val σ=ab (b,q)->e7 P E σ a w c o e.ws:=by
    intro NK gH V0 h4
    obtain⟨l,hl,h4⟩:=Rd.bind_some h4
    obtain⟨hh,uY,h4⟩:=Rd.bind_some h4
    obtain⟨rfl,rfl⟩:=bn (aq h4)
    obtain rfl:=aq h
    have hc:iV l hh ((B1-yp:au):ax)=true:=hc
    simp only[iV,az,a9]at hc
    obtain⟨⟨c0,c1⟩,c2⟩:=hc
    obtain⟨ti,ht,eM⟩:=NK
    obtain rfl:te=ti:=aq (DY.symm.trans ht)
    obtain⟨v1,v2,v3,v4⟩:=ev
    cases hq:(c.P fI).nil with
    |true=>
     have hz:=gH hq;have ex:=v3 hq;have hi0:B1=0:=by omega
     have lo0:yp=0:=by omega
     subst hi0;subst lo0;have h0:hh=0:=by simp at c2;omega
     have l0:l=0:=by omega
     subst h0;subst l0;have hr:=iG (P:=P) (te:=te) hE hu ht cU (A:=af) (n:=0) (cp:=0) hl (by simpa using uY) (by omega) (by omega) (by simp);refine eT bI cU hd (s:= .v ah [.vw fI (0+(0:ax).toNat) (0+(0:ax).toNat)]) (v:= .slice af 0 0) ⟨cD _,bT _,λ_=>rfl,λhf=>by rw[hq]at hf;cases hf⟩ (λm hm=>by simp[bO,bh]at hm;subst hm;rw[hg];simp) (exec ex (by simpa using hr))
    |false=>
     have V0:=V0 hq;rcases v4 hq with ⟨u1,ex⟩|⟨u1,oo,u2,ex⟩
     ·have hr:=iG (P:=P) (te:=te) hE hu ht cU (A:=ab (ad (c.P fI).blk ((c.P fI).off+yp*(c.P fI).sz))) (n:=B1-yp) (cp:=(c.P fI).cap-yp) hl uY c0 c1 (by omega);refine eT bI cU hd (s:= .v ah [.vw fI (yp+l.toNat) (yp+hh.toNat)]) ⟨by omega,by omega,λhf=>(by rw[hq]at hf;cases hf),λ_=> ?_⟩ (λm hm=>by simp[bO,bh]at hm;subst hm;rw[hg];simp) (exec ex hr);by_cases hle:(c.P fI).cap-yp=l.toNat
      ·refine .inr ⟨by omega,(c.P fI).off+yp*(c.P fI).sz, ?_, ?_⟩
       ·have:=bD (c.P fI).sz (Us u1);omega
       ·rw[br hle,show hh.toNat-l.toNat=0 by omega,show(c.P fI).cap-yp-l.toNat=0 by omega]
      ·refine .inl ⟨by omega, ?_⟩;rw[bF hle];simp only[gm,Addr.ld,eM];rw[show yp+hh.toNat-(yp+l.toNat)=hh.toNat-l.toNat by omega,show(c.P fI).cap-(yp+l.toNat)=(c.P fI).cap-yp-l.toNat by omega,cB,ju]
     ·have hr:=iG (P:=P) (te:=te) hE hu ht cU (A:=ab (ad (c.P fI).blk oo)) (n:=0) (cp:=0) hl (by rw[show B1-yp=0 by omega]at uY;exact uY) c0 c1 (by omega);have h0:hh=0:=by omega
      have l0:l=0:=by omega
      subst h0;subst l0;refine eT bI cU hd (s:= .v ah [.vw fI (yp+(0:ax).toNat) (yp+(0:ax).toNat)]) (v:= .slice (ab (ad (c.P fI).blk oo)) 0 0) ⟨cD _,by simp;omega,λhf=>(by rw[hq]at hf;cases hf),λ_=> .inr ⟨by simpa using u1,oo,u2,rfl⟩⟩ (λm hm=>by simp[bO,bh]at hm;subst hm;rw[hg];simp) (exec ex (by simpa using hr))
   cases ob with
   |row e' ex xs=>obtain⟨yh,h4⟩:=bQ h3;have:=aJ yh;subst this;obtain⟨i1,i2,ti,i3,i4,i5⟩:=iS bI hg;exact main ⟨ti,i3,i4⟩ (λhn=>by rw[i1,i2 hn];rfl) (λh=>(i5 h).1) h4
   |ej e' xs=>
    obtain⟨yh,h4⟩:=bQ h3;have:=aJ yh;subst this;obtain⟨i1,i2,i3⟩:=j6 bI hg;refine main i3 (λhn=>by rw[i1,i2 hn];rfl) (λG7=> ?_) h4;obtain⟨j1,j2,_⟩:=bI.obj fI _ hg;rw[dK G7]at j1;by_cases hz:0<xs.length
    ·obtain⟨t3,U,L⟩:=j1.Cf hz;rw[j2];exact L.cap
    ·omega
   |_=>simp at h3
  |nl=>
   obtain⟨l,hl,h4⟩:=Rd.bind_some h3;obtain⟨hh,uY,h4⟩:=Rd.bind_some h4;obtain⟨rfl,rfl⟩:=bn (aq h4);obtain rfl:=aq h;have hc:iV l hh 0=true:=hc;simp only[iV,az,a9]at hc;obtain⟨⟨c0,c1⟩,c2⟩:=hc;have h0:hh=0:=by omega
   have l0:l=0:=by omega
   subst h0;subst l0;have hr:=iG (P:=P) (te:=te) hE hu DY cU (A:=af) (n:=0) (cp:=0) hl uY (by omega) (by omega) (by simp);exact eT bI cU hd (s:= .v ah [.nl]) (v:= .slice af 0 0) rfl (λn hn=>by simp[bO,bh]at hn) (exec ev (by simpa using hr))
  |_=>simp[Lj]at h3
 |_=>simp[Er]at h3
end
end Go.FG

namespace Go.FG
section
variable {P:b9} {E:eh} {σ:St} {a:Act} {w:bf} {c:dJ} {o:dU} {nm:au} {e:o7}
theorem HA(bI:Ok E σ w c){x:AV}{v:aR}(hx:dz E w c x v){el:au}{xs:aY}(h:(jM E x).val σ=ab (el,xs)):∃A cp,v= .slice A xs.length cp:=by
 cases x with
 |sh e' ys=>
  obtain⟨rfl,rfl⟩:=bn (aq h);have hx:ch E w c.K v (.l e' ys):=hx;cases hx with
  |nl=>exact⟨_,_,rfl⟩
  |l=>exact⟨_,_,rfl⟩
 |own n=>
  obtain⟨ob,hg,h⟩:=Rd.bind_some h;have hg:=cM hg;have hx:v=jj (c.P n):=hx;have main:∀ys:aY,(c.P n).n=ys.length->((c.P n).nil=ae->ys=[])->∃A cp,v= .slice A ys.length cp:=by
   intro ys h1 h2;cases hq:(c.P n).nil with
   |true=>rw[hx,kK hq,h2 hq];exact⟨_,_,rfl⟩
   |false=>rw[hx,dK hq,h1];exact⟨_,_,rfl⟩
  cases ob with
  |row e' ex ys=>obtain⟨rfl,rfl⟩:=bn (aq h);obtain⟨i1,i2,_⟩:=iS bI hg;exact main _ i1 i2
  |ej e' ys=>obtain⟨rfl,rfl⟩:=bn (aq h);obtain⟨i1,i2,_⟩:=j6 bI hg;exact main _ i1 i2
  |_=>simp at h
 |vw n lo hi=>
  obtain⟨ob,hg,h⟩:=Rd.bind_some h;have hg:=cM hg;obtain⟨v1,v2,v3,v4⟩:=hx;have main:∀ys:aY,(c.P n).n=ys.length->((c.P n).nil=ae->ys=[])->((c.P n).nil=ah->(c.P n).n<=(c.P n).cap)->∃A cp,v= .slice A (dM ys lo hi).length cp:=by
   intro ys h1 h2 h3;rw[jK (by omega)];cases hq:(c.P n).nil with
   |true=>have:=h2 hq;subst this;rw[v3 hq,show hi-lo=0 by simp at h1;omega];exact⟨_,_,rfl⟩
   |false=>
    rcases v4 hq with ⟨_,h⟩|⟨u1,oo,_,h⟩
    ·rw[h];exact⟨_,_,rfl⟩
    ·have:=h3 hq;rw[h,show hi-lo=0 by omega];exact⟨_,_,rfl⟩
  cases ob with
  |row e' ex ys=>obtain⟨rfl,rfl⟩:=bn (aq h);obtain⟨i1,i2,ti,_,_,i5⟩:=iS bI hg;exact main _ i1 i2 (λh=>(i5 h).1)
  |ej e' ys=>
   obtain⟨rfl,rfl⟩:=bn (aq h);obtain⟨i1,i2,_⟩:=j6 bI hg;refine main _ i1 i2 (λG7=> ?_);obtain⟨j1,j2,_⟩:=bI.obj n _ hg;rw[dK G7]at j1;by_cases hz:0<ys.length
   ·obtain⟨t3,U,L⟩:=j1.Cf hz;rw[j2];exact L.cap
   ·omega
  |_=>simp at h
 |inn n i j=>
  obtain⟨ob,hg,h⟩:=Rd.bind_some h;have hg:=cM hg;cases ob with
  |row e' ex ys=>
   cases ex with
   |false=>simp at h
   |true=>
   obtain⟨te,ht,h⟩:=Rd.bind_some h;have ht:=de ht;split at h
   ·rename_i e2 wP;obtain⟨rfl,rfl⟩:=bn (aq h);obtain⟨⟨nc,hx⟩,_⟩:=hx;obtain⟨⟨tj,Tf,eM,jR⟩,eI,_⟩:=bI.obj n _ hg;obtain rfl:te=tj:=aq (ht.symm.trans Tf);obtain⟨zs,y',hy,Ti,uu,_,tk,Aw,oW,DX,yl,lL⟩:=qf (c:=c) eI jR nc wP;rw[dY hy Ti];cases hq:(c.G n i j).nil with
    |true=>rw[hx,kK hq,show ia (.l e2 zs)=zs from rfl,(lL.nil hq).1];exact⟨_,_,rfl⟩
    |false=>rw[hx,dK hq,lL.n];exact⟨_,_,rfl⟩
   ·simp at h
  |_=>simp at h
 |_=>simp[jM]at h
theorem jY{cl:Call}{b:Builtin}(ho:o.op= .call cl)(hb:cl.callee= .builtin b):
  ∃cs,(execOp a.eval o).run P w=(builtin b cl.argTypes o.type cs (cl.args.map a.eval)).run P w:=by unfold execOp;rw[ho];simp only[resolve,hb,bJ,bV,ba,invoke];exact⟨_,rfl⟩
theorem kH{α:Type}{x:cG α}{y:α}(h:x.toList=[y]):x= #[y]:=by apply oO;simpa using h
theorem xK{α:Type}{x:cG α}{y z:α}(h:x.toList=[y,z]):x= #[y,z]:=by apply oO;simpa using h
theorem TV(hE:dv P E)(bI:Ok E σ w c)(cU:dX E σ a w c)(hd:∀d,o.dst=ab d->d<a.tmps.size){cl:Call}(ho:o.op= .call cl)(hb:cl.callee= .builtin .len)(h:(jz E nm o).val σ=ab e):e7 P E σ a w c o e.ws:=by
 simp only[jz,ho,hb]at h;split at h
 ·rename_i x t hx ht;obtain⟨k,hk,h⟩:=Rd.bind_some h;obtain⟨v,h1,h⟩:=Rd.bind_some h;obtain⟨n,h2,h⟩:=Rd.bind_some h;obtain⟨ev,kv⟩:=gd cU h1;have hx:=kH hx;have ht:=kH ht;have exec:∀r,(rz #[t] o.type #[a.eval x]).run P w= .ok r w->(execOp a.eval o).run P w= .ok (.value r) w:=by intro r hr;obtain⟨cs,Be⟩:=jY (P:=P) (a:=a) (w:=w) ho hb;rw[Be,hx,ht];simp only[builtin,x_,dW,v7];exact fY hr
  have fin:∀m:au,n=m->(rz #[t] o.type #[a.eval x]).run P w= .ok (goInt m) w->e7 P E σ a w c o e.ws:=by intro m hm hr;subst hm;exact eC bI cU hd h (v:=goInt m) rfl (λn hn=>by simp[bO,bh]at hn) (exec _ hr)
  cases k with
  |s=>cases v with
   |s s=>obtain rfl:=aq h2;have ev:a.eval x= .string s:=ev.1;exact fin s.size rfl (by rw[ev];simp[rz,run_underlying (iR hE hk)])
   |_=>simp[Tw]at h2
  |l el=>
   have hu:=iD hE hk;have sl:∀A (m:au) cp,a.eval x= .slice A m cp->n=m->e7 P E σ a w c o e.ws:=by intro A m cp hv hn;exact fin m hn (by rw[hv];simp[rz,run_underlying hu])
   have gen:∀(Y4:au) (xs:aY),(jM E v).val σ=ab (Y4,xs)->n=xs.length->e7 P E σ a w c o e.ws:=by intro Y4 xs hr hn;obtain⟨A,cp,hv⟩:=HA bI ev hr;exact sl _ _ _ hv hn
   cases v with
   |nl=>obtain rfl:=aq h2;exact sl af 0 0 ev rfl
   |vw m lo hi=>
    obtain⟨ob,hg,h2⟩:=Rd.bind_some h2;have hg:=cM hg;have r1:∃(e1:au) (ys:aY),(jM E (.vw m lo hi)).val σ=ab (e1,dM ys lo hi)/\(c.P m).n=ys.length/\n=((hi-lo:au):ax):=by
     cases ob with
     |row e1 ex ys=>exact⟨e1,ys,by simp[jM,gV,hg],(iS bI hg).1,(aq h2).symm⟩
     |ej e1 ys=>exact⟨e1,ys,by simp[jM,gV,hg],(j6 bI hg).1,(aq h2).symm⟩
     |_=>simp at h2
    obtain⟨e1,ys,h5,h6,h7⟩:=r1;refine gen e1 _ h5 ?_;rw[jK (by have:=ev.2.1;omega)];exact h7
   |_=>obtain⟨⟨Y4,xs⟩,hr,h3⟩:=Rd.bind_some h2;obtain rfl:=aq h3;exact gen Y4 xs hr rfl
  |_=>simp[Tw]at h2
 ·simp at h
end
end Go.FG

namespace Go.FG
section
variable {P:b9} {E:eh} {σ:St} {a:Act} {w:bf} {c:dJ} {o:dU} {nm:au} {e:o7}
theorem tY{α:Type}{x:ar α}{σ:St}{r:α}(h:(KT x).val σ=ab r):x=ab r:=by
 cases x with
 |none=>simp[KT]at h
 |some y=>exact h
theorem TU(hE:dv P E)(bI:Ok E σ w c)(cU:dX E σ a w c)(hd:∀d,o.dst=ab d->d<a.tmps.size){cl:Call}(ho:o.op= .call cl)(hb:cl.callee= .builtin .cap)(h:(jz E nm o).val σ=ab e):e7 P E σ a w c o e.ws:=by
 simp only[jz,ho,hb]at h;split at h
 ·rename_i x t hx ht;obtain⟨k,hk,h⟩:=Rd.bind_some h;have hx:=kH hx;have ht:=kH ht;cases k with
  |l el=>
   obtain⟨v,h1,h⟩:=Rd.bind_some h;obtain⟨ev,kv⟩:=gd cU h1;have hu:=iD hE hk;cases v with
   |nl=>refine eC bI cU hd h (v:=goInt 0) rfl (λn hn=>by simp[bO,bh]at hn) ?_;obtain⟨cs,Be⟩:=jY (P:=P) (a:=a) (w:=w) ho hb;rw[Be,hx,ht];simp only[builtin,x_,dW,v7];refine fY ?_;rw[show a.eval x= .slice af 0 0 from ev];simp[Builtin.cap_,run_underlying hu]
   |_=>simp at h
  |_=>simp at h
 ·simp at h
theorem D5(cU:dX E σ a w c)(mx:aL):∀(r:ak cL) (k:ki) (n:ax) (v:AV),(sn mx r k n).val σ=ab v->
  ∃m,v= .i k m/\((r.map a.eval).foldlM (if mx then yD else yE) (.int k n)).run P w= .ok (.int k m) w:=by
 intro r;induction r with
 |nil=>intro k n v h;obtain rfl:=aq h;exact⟨n,rfl,rfl⟩
 |cons x r ih=>
  intro k n v h;obtain⟨⟨k2,m⟩,h1,h2⟩:=Rd.bind_some h;have hx:=mU cU h1;obtain⟨q,hq,hr⟩:=ih k (gj mx n m) v h2;refine⟨q,hq, ?_⟩
  simp only[dW,List.foldlM_cons,bJ,hx];cases mx with
  |true=>
   have:(yD (.int k n) (.int k2 m)).run P w= .ok (.int k (gj ae n m)) w:=by simp[yD,gj]
   simp only[if_true,this,ba]at hr⊢;exact hr
  |false=>
   have:(yE (.int k n) (.int k2 m)).run P w= .ok (.int k (gj ah n m)) w:=by simp[yE,gj]
   simp only[cJ,if_false,this,ba]at hr⊢;exact hr
theorem zk(mx:aL)(bI:Ok E σ w c)(cU:dX E σ a w c)(hd:∀d,o.dst=ab d->d<a.tmps.size){cl:Call}(ho:o.op= .call cl)(hb:cl.callee= .builtin (if mx then .max else .min))(h:(jz E nm o).val σ=ab e):e7 P E σ a w c o e.ws:=by
 have main:∀x r,cl.args.toList=x::r->((xp x).bind λ(k,n)=>(sn mx r k n).bind λv=>uh o v).val σ=ab e->e7 P E σ a w c o e.ws:=by
  intro x r hx h;obtain⟨⟨k,n⟩,h1,h⟩:=Rd.bind_some h;obtain⟨v,h2,h⟩:=Rd.bind_some h;have ex:=mU cU h1;obtain⟨m,rfl,hr⟩:=D5 (P:=P) cU mx r k n v h2;refine eC bI cU hd h (v:= .int k m) rfl (λn hn=>by simp[bO,bh]at hn) ?_;obtain⟨cs,Be⟩:=jY (P:=P) (a:=a) (w:=w) ho hb;have oJ:cl.args.map a.eval=((x::r).map a.eval).toArray:=by rw[<-hx];apply oO;simp
  rw[Be,oJ];cases mx with
  |true=>simp only[if_true,builtin];refine fY ?_;simp only[Builtin.max_,dW,ex];exact hr
  |false=>simp only[cJ,if_false,builtin];refine fY ?_;simp only[Builtin.min_,dW,ex];exact hr
 cases mx with
 |true=>
  simp only[jz,ho,hb,if_true]at h;split at h
  ·rename_i x r hx;exact main x r hx h
  ·simp at h
 |false=>
  simp only[jz,ho,hb,cJ,if_false]at h;split at h
  ·rename_i x r hx;exact main x r hx h
  ·simp at h
theorem Lb{op:BinOp}{t:au}{k:ki}{m n:ax}{b:aL}{v:AV}(hs:Ha op=ah)(h:Sd op k m n=ab (b,v))(hb:b=ae):
  ∃u,dz E w c v u/\bh v=[]/\(binOp op t (.int k m) (.int k n)).run P w= .ok u w:=by
 subst hb;cases op<;>simp only[Sd,gJ,hZ,true_and,reduceCtorEq]at h<;>first|(simp[Ha]at hs;done)|skip
 case quo=>
  obtain⟨h1,rfl⟩:=h
  have hn:¬n=0:=by simpa using h1
  exact⟨_,rfl,rfl,by simp[binOp,Op.intDiv,hn]⟩
 case rem=>
  obtain⟨h1,rfl⟩:=h
  have hn:¬n=0:=by simpa using h1
  exact⟨_,rfl,rfl,by simp[binOp,Op.intDiv,hn]⟩
 all_goals (subst h;exact⟨_,rfl,rfl,by simp[binOp,Op.intArith,Op.intBits,Op.intCmp]⟩)
theorem Lc{op:BinOp}{t:au}{m n:ai}{b:aL}{v:AV}(hs:Ha op=ah)(h:Sg op m n=ab (b,v))(hb:b=ae):
  ∃u,dz E w c v u/\bh v=[]/\(binOp op t (.string m) (.string n)).run P w= .ok u w:=by
 subst hb;cases op<;>simp only[Sg,gJ,hZ,true_and,reduceCtorEq]at h<;>first|(simp[Ha]at hs;done)|skip
 case add=>
  obtain⟨h1,rfl⟩:=h
  have h1:=bU h1
  refine⟨_,⟨rfl,by unfold Ox;rw[fE];omega⟩,rfl, ?_⟩
  have:¬(((m.size+n.size:au):ax)>aj.max):=by
   have:aj.max=9223372036854775807:=by decide
   omega
  simp only[binOp,YV,bF this,bV]
 all_goals (subst h;exact⟨_,rfl,rfl,by simp[binOp,YV]⟩)
theorem sE{op:BinOp}{t:au}{x y:cL}{u v:aR}(hu:∀xs,u≠ .agg xs)(hn:u≠ .nilIface):(eqGuard op t x y u v).run P w= .ok () w:=by unfold eqGuard;cases op<;>cases u<;>first|rfl|(exact bS rfl (hu _))|(exact bS rfl hn)|(cases v<;>rfl)
theorem sD{P:b9}(w:bf){t:au}(h:P.underlying t=ab .bool)(m n:aL):(binOp .eql t (.bool m) (.bool n)).run P w= .ok (.bool (m==n)) w/\(binOp .neq t (.bool m) (.bool n)).run P w= .ok (.bool !(m==n)) w:=by
 have h1:(Op.equal t (.bool m) (.bool n)).run P w= .ok (m==n) w:=by show(Op.equalIn (9999+1) t (.bool m) (.bool n)).run P w=_;exact run_equalIn_bool w 9999 t m n h
 simp only[binOp,bJ,h1,ba,bV];exact⟨trivial,trivial⟩
theorem xz{xs:ak AV}{ks:ak Ck}(hk:xs.map Ay=ks)(hp:plain ks=ae){vals:cG aR}(hs:vals.size=xs.length)(hv:∀(j:au) (a:AV),xs[j]? =ab a->∃u:aR,vals[j]? =ab u/\dz E w c a u):vals=(xs.map jq).toArray:=by
 apply oO;apply Md;intro j;simp only[bY,bc];cases hx:xs[j]? with
 |none=>have:=List.getElem?_eq_none_iff.1 hx;simp;omega
 |some a=>
  obtain⟨u,hu,ha⟩:=hv j a hx;rw[hu];have hm:Ay a∈ks:=by rw[<-hk];exact b7.2 ⟨a,aD hx,rfl⟩
  have se:=aZ.1 hp _ hm;cases a<;>simp[Ay]at se<;>first|(have h1:u=_:=ha;rw[h1];rfl)|(have h1:u=_:=ha.1;rw[h1];rfl)
theorem M3(hE:dv P E){op:BinOp}{t:au}{x y:cL}{sx sy:SV}{ux uy:aR}(ex:gu E w c sx ux)(ey:gu E w c sy uy){b:aL}{v:AV}(h3:(Sf E t op sx sy).val σ=ab (b,v))(hc:b=ae):
  ∃u,dz E w c v u/\bh v=[]/\(do eqGuard op t x y ux uy;binOp op t ux uy).run P w= .ok u w:=by
 have fin:∀u,dz E w c v u->bh v=[]->(do eqGuard op t x y ux uy;binOp op t ux uy).run P w= .ok u w->∃u,dz E w c v u/\bh v=[]/\(do eqGuard op t x y ux uy;binOp op t ux uy).run P w= .ok u w:=
  λu hu hn hr=>⟨u,hu,hn,hr⟩
 have pl:∀u1 u2 r,ux=u1->uy=u2->(∀xs,u1≠ .agg xs)->u1≠ .nilIface->(binOp op t u1 u2).run P w= .ok r w->(do eqGuard op t x y ux uy;binOp op t ux uy).run P w= .ok r w:=by intro u1 u2 r h1 h2 h3 h4 h5;rw[h1,h2];simp only[bJ,sE (P:=P) (w:=w) (op:=op) (t:=t) (x:=x) (y:=y) (v:=u2) h3 h4,ba,h5]
 unfold Sf at h3;split at h3
 ·rename_i p q;have ex:dz E w c p ux:=ex;have ey:dz E w c q uy:=ey;cases jR:Ha op with
  |true=>
   rw[jR]at h3;replace h3:=tY h3;cases p<;>cases q<;>first|(simp[shV]at h3;done)|skip
   cases op<;>simp only[shV,gJ,hZ,reduceCtorEq]at h3<;>(obtain⟨rfl,rfl⟩:=h3)
   ·refine fin _ rfl rfl (pl _ _ _ ex ey (by simp) (by simp) ?_);have:¬(_:ax)<0:=YW.2 (bU hc);simp[binOp,Op.shift,this]
   ·refine fin _ rfl rfl (pl _ _ _ ex ey (by simp) (by simp) ?_);have:¬(_:ax)<0:=YW.2 (bU hc);simp[binOp,Op.shift,this]
  |false=>
   rw[jR]at h3;obtain⟨k,hk,h3⟩:=Rd.bind_some h3;replace h3:=tY h3;cases p with
   |i k1 m=>
    cases q with
    |i k2 n=>
     have h9:=h3;simp only[Dt]at h9;split at h9
     ·rename_i J3;subst J3;obtain⟨u,hu,hn,hr⟩:=Lb (P:=P) (t:=t) (E:=E) (c:=c) (w:=w) jR h9 hc;exact fin u hu hn (pl _ _ _ ex ey (by simp) (by simp) hr)
     ·cases h9
    |_=>simp[Dt]at h3
   |s m=>
    cases q with
    |s n=>obtain⟨u,hu,hn,hr⟩:=Lc (P:=P) (t:=t) (E:=E) (c:=c) (w:=w) jR h3 hc;exact fin u hu hn (pl _ _ _ ex.1 ey.1 (by simp) (by simp) hr)
    |_=>simp[Dt]at h3
   |b m=>
    cases q with
    |b n=>
     have PX:k= .b->P.underlying t=ab .bool:=by rintro rfl;obtain⟨ti,q1,q2,q3⟩:=od hk;obtain⟨d,P0,_,hn⟩:=hE.desc t ti q1;rcases hn q2 with ⟨k,h,_⟩|⟨h,rfl⟩|⟨h,_⟩|⟨e',h,_⟩|⟨h,_⟩<;>rw[q3]at h<;>simp_all
     cases op<;>cases k<;>simp only[Dt,gJ,hZ,reduceCtorEq]at h3<;>(obtain⟨rfl,rfl⟩:=h3)
     ·refine fin _ rfl rfl (pl _ _ _ ex ey (by simp) (by simp) ?_);exact(sD (P:=P) w (PX rfl) _ _).1
     ·refine fin _ rfl rfl (pl _ _ _ ex ey (by simp) (by simp) ?_);exact(sD (P:=P) w (PX rfl) _ _).2
    |_=>simp[Dt]at h3
   |_=>simp[Dt]at h3
 ·rename_i xs ys;obtain⟨ti,ht,h3⟩:=Rd.bind_some h3;have ht:=de ht;obtain⟨h4,h3⟩:=bQ h3;simp only[az]at h4;obtain⟨⟨⟨⟨h5,h6⟩,h7⟩,h8⟩,h9⟩:=h4;have h7:=n8 h7;have h8:=n8 h8;replace h3:=tY h3;obtain⟨X,hX,sX,vX⟩:=ex;obtain⟨Y,hY,sY,vY⟩:=ey;have eX:=xz h7 h9 sX vX;have eY:=xz h8 h9 sY vY;cases hq:Nh xs ys with
  |none=>rw[hq]at h3;cases h3
  |some r=>
   rw[hq]at h3;obtain⟨r1,r2⟩:=hE.eq t ti h6 ht w x y xs ys r hq h7 h8;cases op<;>first|(simp[isEq]at h5;done)|skip
   ·obtain⟨_,rfl⟩:=bn (aq h3);exact fin _ rfl rfl (by rw[hX,hY,eX,eY];exact r1)
   ·obtain⟨_,rfl⟩:=bn (aq h3);exact fin _ rfl rfl (by rw[hX,hY,eX,eY];exact r2)
 ·simp at h3
theorem KM(hE:dv P E)(bI:Ok E σ w c)(cU:dX E σ a w c)(hd:∀d,o.dst=ab d->d<a.tmps.size){op:BinOp}{t ty:au}{x y:cL}(ho:o.op= .binOp op t x y ty)(h:(jz E nm o).val σ=ab e)(hc:e.cond=ae):e7 P E σ a w c o e.ws:=by simp only[jz,ho]at h;obtain⟨sx,h1,h⟩:=Rd.bind_some h;obtain⟨sy,h2,h⟩:=Rd.bind_some h;obtain⟨⟨b,v⟩,h3,h⟩:=Rd.bind_some h;obtain rfl:=aq h;obtain⟨u,hu,hn,hr⟩:=M3 (P:=P) (x:=x) (y:=y) hE (jH cU h1).1 (jH cU h2).1 h3 hc;refine eT bI cU hd (s:= .v ah [v]) hu (λn iC=>by simp[bO,hn]at iC) ?_;unfold execOp;rw[ho];exact fY hr
end
end Go.FG

namespace Go.FG
theorem EC{p:Pl}(hn:p.nil=ah->p.n<=p.cap)(hz:p.nil=ae->p.n=0):rS p 0 p.n (jj p):=by
 refine⟨bT _,cD _,λh=>kK h,λh=> ?_⟩
 rw[dK h];by_cases hc:p.cap=0
 ·refine .inr ⟨hc.symm,p.off,Nat.le_add_right _ _, ?_⟩;have:=hn h;rw[hc,show p.n=0 by omega]
 ·refine .inl ⟨by omega, ?_⟩;simp
theorem nI(xs:aY):dM xs 0 xs.length=xs:=by unfold dM;simp
def lz(w:bf)(v:aR)(xs:aY)(sz:au)(R:au->au->aR->CV->Prop):Prop:=
 ∃A cp,v= .slice A xs.length cp/\(xs≠[]->∃b o,A=ab (ad b o)/\∀(i:au) (y:ak CV) (j:au) (x:CV),xs[i]? =ab y->y[j]? =ab x->∃u:aR,w.cell? (ad b (o+i*sz+j))=ab u/\R i j u x)
theorem lz.imp{w:bf}{v:aR}{xs:aY}{sz:au}{R R':au->au->aR->CV->Prop}(h:lz w v xs sz R)(hR:∀(i:au) (y:ak CV) (j:au) (x:CV) (u:aR),xs[i]? =ab y->y[j]? =ab x->R i j u x->R' i j u x):lz w v xs sz R':=by
 obtain⟨A,cp,h1,h2⟩:=h;refine⟨A,cp,h1,λfP=> ?_⟩
 obtain⟨b,o,h3,h4⟩:=h2 fP;refine⟨b,o,h3,λi y j x hi hj=> ?_⟩
 obtain⟨u,hu,hr⟩:=h4 i y j x hi hj;exact⟨u,hu,hR i y j x u hi hj hr⟩
theorem Ew{w:bf}{p:Pl}{xs:aY}{R:au->au->aR->CV->Prop}{lo hi:au}{v:aR}(h:gq w p xs R)(hv:rS p lo hi v):lz w v (dM xs lo hi) p.sz (λi j u x=>R (lo+i) j u x):=by
 obtain⟨v1,v2,v3,v4⟩:=hv;have hl:=jK (xs:=xs) (lo:=lo) (hi:=hi) (by rw[<-h.n];exact v2);cases hq:p.nil with
 |true=>
  have hx:=(h.nil hq).1;have h0:=h.n;rw[hx]at h0;refine⟨af,0, ?_,λfP=>bS (by rw[hx];unfold dM;simp) fP⟩
  rw[v3 hq,hl];have:p.n=0:=h0;congr 1;omega
 |false=>
  obtain⟨vals,hb,J6,Nx,mJ,hc⟩:=h.mem hq;rcases v4 hq with ⟨u1,rfl⟩|⟨u1,oo,u2,rfl⟩
  ·refine⟨_,_,by rw[hl],λfP=>⟨_,_,rfl,λi y j x jw hj=> ?_⟩⟩
   rw[pO]at jw;split at jw
   ·obtain⟨u,hu,hr⟩:=hc (lo+i) y j x jw hj;refine⟨u, ?_,hr⟩
    rw[hb.cell,<-hu];congr 1;rw[cB];omega
   ·cases jw
  ·have h0:hi-lo=0:=by omega
   refine⟨_,_,by rw[hl,h0],λfP=>bS (eH (hl.trans h0)) fP⟩
theorem B7{E:eh}{w:bf}{K:au->Prop}{p:Pl}{e:au}{te:TI}{xs:aY}(he:E.ty e=ab te)(h:ch E w K (jj p) (.l e xs))(hn:p.n=xs.length)(hs:p.sz=te.ks.length){lo hi:au}{v:aR}(hv:rS p lo hi v):ch E w K v (.l e (dM xs lo hi)):=by
 obtain⟨v1,v2,v3,v4⟩:=hv;have hl:=jK (xs:=xs) (lo:=lo) (hi:=hi) (by rw[<-hn];exact v2);have nil:hi-lo=0->dM xs lo hi=[]:=λh0=>eH (hl.trans h0);cases hq:p.nil with
 |true=>
  rw[kK hq]at h;have hx:xs=[]:=by cases h;rfl
  subst hx;have hn:p.n=0:=hn;rw[v3 hq,nil (by omega)];exact .nl _ _ _
 |false=>
  rw[dK hq]at h;rcases v4 hq with ⟨u1,rfl⟩|⟨u1,oo,u2,rfl⟩
  ·have:=(zb (lo:=lo) (hi:=hi) he h v1 (by rw[<-hn];exact v2)).2;rw[bF (by omega)]at this;simpa only[gm,Addr.ld,hs]using this
  ·by_cases hz:hi-lo=0
   ·rw[nil hz];exact .nl _ _ _
   ·have h1:0<xs.length:=by omega
    obtain⟨t3,U,L⟩:=h.Cf h1;have:=L.cap;omega
theorem ud{E:eh}{w:bf}{K:au->Prop}{v:aR}{e:au}{te:TI}{xs:aY}(he:E.ty e=ab te)(h:ch E w K v (.l e xs)):lz w v xs te.ks.length (λ_ _ u x=>ch E w K u x)/\∀y∈xs,y.map CV.kd=te.ks:=by
 cases h with
 |nl=>exact⟨⟨_,_,rfl,λh=>bS rfl h⟩,λy hy=>by cases hy⟩
 |l _ _ b o cp ti U ht hc hm hK hs hcell fO=>obtain rfl:te=ti:=aq (he.symm.trans ht);exact⟨⟨_,_,rfl,λ_=>⟨b,o,rfl,λi y j x hi hj=>⟨U i j,hcell i j y x hi hj,fO i j y x hi hj⟩⟩⟩,hs⟩
theorem mi{E:eh}{w:bf}{K:au->Prop}{u:aR}{x:CV}(h:ch E w K u x)(hl:p_ x=ah):Sc u x:=by
 cases h with
 |i=>exact⟨rfl,trivial⟩
 |b=>exact⟨rfl,trivial⟩
 |s _ h=>exact⟨rfl,h⟩
 |nl=>simp[p_]at hl
 |l=>simp[p_]at hl
theorem iH{E:eh}{w:bf}{K:au->Prop}{u:aR}{x:CV}(hl:p_ x=ah)(h:Sc u x):ch E w K u x:=by
 obtain⟨h1,h2⟩:=h;subst h1;cases x with
 |i k n=>exact .i k n
 |b x=>exact .b x
 |s x=>exact .s x h2
 |l=>simp[p_]at hl
theorem qi{E:eh}{w:bf}{G:au->au->Pl}{i j:au}{u:aR}{x:CV}(h:XC E w G i j u x)(hl:p_ x=ah):Sc u x:=by
 cases x with
 |l=>simp[p_]at hl
 |i=>exact h
 |b=>exact h
 |s=>exact h
theorem qg{E:eh}{w:bf}{G:au->au->Pl}{i j:au}{u:aR}{x:CV}(hl:p_ x=ah)(h:Sc u x):XC E w G i j u x:=by
 cases x with
 |l=>simp[p_]at hl
 |i=>exact h
 |b=>exact h
 |s=>exact h
theorem lz.list{w:bf}{v:aR}{xs:aY}{sz:au}{R:au->au->aR->CV->Prop}(h:lz w v xs sz R)(hs:∀y∈xs,y.length=sz):
  ∃(A:ar Addr) (cp:au) (news:ak aR),v= .slice A xs.length cp/\news.length=xs.length*sz/\(xs=[]\/∃b o,A=ab (ad b o)/\∀j u,news[j]? =ab u->w.cell? (ad b (o+j))=ab u)/\
   ∀(i:au) (y:ak CV) (j:au) (x:CV),xs[i]? =ab y->y[j]? =ab x->∃u:aR,news[i*sz+j]? =ab u/\R i j u x:=by
 obtain⟨A,cp,rfl,h2⟩:=h;by_cases hx:xs=[]
 ·subst hx;exact⟨A,cp,[],rfl,by simp, .inl rfl,λi y j x hi hj=>by simp at hi⟩
 ·obtain⟨b,o,h3,h4⟩:=h2 hx;have ex:∀q,q<xs.length*sz->∃u,w.cell? (ad b (o+q))=ab u:=by
   intro q hq;have eM:0<sz:=by rcases xR sz with h|h;(subst h;simp at hq);exact h
   have hi:q/sz<xs.length:=by rw[sV eM];exact hq
   have hj:q%sz<xs[q/sz].length:=by rw[hs _ (bk hi)];exact xS _ eM
   obtain⟨u,hu,_⟩:=h4 (q/sz) xs[q/sz] (q%sz) (xs[q/sz][q%sz]) (by simp[hi]) (by simp[hj]);refine⟨u, ?_⟩
   rw[<-hu];congr 2;have:=CX q sz;rw[yH]at this;omega
  refine⟨A,cp,(cy (xs.length*sz)).map (λq=>(w.cell? (ad b (o+q))).getD undef),rfl,by simp, .inr ⟨b,o,h3,λj u hj=> ?_⟩,λi y j x hi hj=> ?_⟩
  ·rw[bc]at hj;by_cases jc:j<xs.length*sz
   ·obtain⟨u',oK⟩:=ex j jc;simp only[jc,qO,gm,oK,tq,gJ]at hj;rw[oK,hj]
   ·rw[iL (l:=cy (xs.length*sz)) (by simpa using jc)]at hj;cases hj
  ·obtain⟨u,hu,hr⟩:=h4 i y j x hi hj;refine⟨u, ?_,hr⟩
   have Ze:=(aG.1 hi).1;have jc:=(aG.1 hj).1;rw[hs y (aD hi)]at jc;have ix:i*sz+j<xs.length*sz:=by have:(i+1)*sz<=xs.length*sz:=bD _ Ze;rw[cB]at this;omega
   rw[bc,qO ix,gm];rw[show o+(i*sz+j)=o+i*sz+j by omega,hu];rfl
section
variable {P:b9} {E:eh} {σ:St} {a:Act} {w:bf} {c:dJ} {o:dU} {nm:au} {e:o7}
theorem sC(bI:Ok E σ w c){nm e:au}{ex:aL}{xs:aY}(h:σ (cf nm)= .o (.row e ex xs)){lo hi:au}{v:aR}(hv:rS (c.P nm) lo hi v):
  ∃te,E.ty e=ab te/\(∀y∈dM xs lo hi,y.map CV.kd=te.ks)/\lz w v (dM xs lo hi) te.ks.length (λi j u x=>if ex=ae then XC E w (c.G nm) (lo+i) j u x else ch E w c.K u x):=by obtain⟨⟨ti,h1,h2,h3⟩,h4,_⟩:=bI.obj nm _ h;have:=Ew h4 hv;rw[h2]at this;exact⟨ti,h1,λy hy=>h3 y (wX hy),this⟩
theorem ru(bI:Ok E σ w c){nm e:au}{ex:aL}{xs:aY}(h:σ (cf nm)= .o (.row e ex xs)):rS (c.P nm) 0 xs.length (jj (c.P nm)):=by obtain⟨h1,h2,ti,h3,h4,h5⟩:=iS bI h;rw[<-h1];exact EC (λhn=>(h5 hn).1) (λhn=>by rw[h1,h2 hn];rfl)
theorem BV(bI:Ok E σ w c){nm e:au}{xs:aY}(h:σ (cf nm)= .o (.ej e xs)):rS (c.P nm) 0 xs.length (jj (c.P nm)):=by
 obtain⟨h1,h2,ti,h3,h4⟩:=j6 bI h;rw[<-h1];refine EC (λhn=> ?_) (λhn=>by rw[h1,h2 hn];rfl);obtain⟨j1,j2,_⟩:=bI.obj nm _ h;rw[dK hn]at j1;by_cases hz:0<xs.length
 ·obtain⟨t3,U,L⟩:=j1.Cf hz;rw[j2];exact L.cap
 ·omega
theorem mh(bI:Ok E σ w c){nm e:au}{xs:aY}(h:σ (cf nm)= .o (.ej e xs)){lo hi:au}{v:aR}(hv:rS (c.P nm) lo hi v):ch E w c.K v (.l e (dM xs lo hi)):=by obtain⟨h1,h2,ti,h3,h4⟩:=bI.obj nm _ h;exact B7 h3 h1 h2 h4 hv
theorem vB(bI:Ok E σ w c){nm e e2 i j:au}{xs:aY}{te:TI}(h:σ (cf nm)= .o (.row e ae xs))(ht:E.ty e=ab te)(hk:te.ks[j]? =ab (.l e2))(hi:i<(c.P nm).n):
  ∃ys y t2,xs[i]? =ab y/\y[j]? =ab (.l e2 ys)/\E.ty e2=ab t2/\plain t2.ks=ae/\(c.G nm i j).sz=t2.ks.length/\(∀y∈ys,y.map CV.kd=t2.ks)/\gq w (c.G nm i j) ys (λ_ _ u x=>Sc u x)/\rS (c.G nm i j) 0 ys.length (jj (c.G nm i j)):=by
 obtain⟨⟨tj,Tf,eM,jR⟩,eI,_⟩:=bI.obj nm _ h;obtain rfl:te=tj:=aq (ht.symm.trans Tf);obtain⟨zs,y,hy,Ti,uu,_,tk,Aw,oW,DX,yl,lL⟩:=qf (c:=c) eI jR hi hk;refine⟨zs,y,tk,hy,Ti,Aw,oW,DX,yl,lL, ?_⟩
 have:=EC (p:=c.G nm i j) (λhn=>by obtain⟨_,_,q,_⟩:=lL.mem hn;exact q) (λhn=>by rw[lL.n,(lL.nil hn).1];rfl);rwa[lL.n]at this
theorem G8{E:eh}{w:bf}{K:au->Prop}{v:aR}{e:au}{xs:aY}(h:ch E w K v (.l e xs)):xs.length<=maxLen:=by
 cases h with
 |nl=>exact bT _
 |l _ _ b o cp ti U ht hc hm=>exact c5 hc hm
theorem qe{w:bf}{p:Pl}{xs:aY}{R:au->au->aR->CV->Prop}(h:gq w p xs R):xs.length<=maxLen:=by
 cases hn:p.nil with
 |true=>rw[(h.nil hn).1];exact bT _
 |false=>obtain⟨vals,_,h2,h3,_⟩:=h.mem hn;rw[<-h.n];exact c5 h2 h3
theorem CU(xs:aY)(lo hi:au):(dM xs lo hi).length<=xs.length:=by unfold dM;simp;omega
theorem uI(bI:Ok E σ w c){x:AV}{v:aR}(hx:dz E w c x v){el:au}{xs:aY}{te:TI}(h:(jM E x).val σ=ab (el,xs))(ht:E.ty el=ab te)(hp:plain te.ks=ae):
  lz w v xs te.ks.length (λ_ _ u x=>Sc u x)/\(∀y∈xs,y.map CV.kd=te.ks)/\xs.length<=maxLen:=by
 have ofH:∀{xs:aY} {v:aR},ch E w c.K v (.l el xs)->lz w v xs te.ks.length (λ_ _ u x=>Sc u x)/\(∀y∈xs,y.map CV.kd=te.ks)/\xs.length<=maxLen:=by intro xs v hh;obtain⟨h1,h2⟩:=ud ht hh;exact⟨h1.imp λi y j x u hi hj hr=>mi hr (fy hp (h2 y (aD hi)) hj),h2,G8 hh⟩
 have ofR:∀{nm:au} {ex:aL} {xs:aY} {lo hi:au} {v:aR},σ (cf nm)= .o (.row el ex xs)->rS (c.P nm) lo hi v->lz w v (dM xs lo hi) te.ks.length (λ_ _ u x=>Sc u x)/\(∀y∈dM xs lo hi,y.map CV.kd=te.ks)/\(dM xs lo hi).length<=maxLen:=by
  intro nm ex xs lo hi v hg hv;obtain⟨t2,q1,q2,q3⟩:=sC bI hg hv;obtain rfl:te=t2:=aq (ht.symm.trans q1);refine⟨q3.imp λi y j x u hi hj hr=> ?_,q2,c5 (CU _ _ _) (qe (bI.obj nm _ hg).at_)⟩
  have hl:=fy hp (q2 y (aD hi)) hj;split at hr
  ·exact qi hr hl
  ·exact mi hr hl
 cases x with
 |sh e' ys=>obtain⟨rfl,rfl⟩:=bn (aq h);exact ofH hx
 |own n=>
  obtain⟨ob,hg,h⟩:=Rd.bind_some h;have hg:=cM hg;have hx:v=jj (c.P n):=hx;subst hx;cases ob with
  |row e' ex ys=>obtain⟨rfl,rfl⟩:=bn (aq h);have:=ofR hg (ru bI hg);rwa[nI]at this
  |ej e' ys=>obtain⟨rfl,rfl⟩:=bn (aq h);have:=ofH (mh bI hg (BV bI hg));rwa[nI]at this
  |_=>simp at h
 |vw n lo hi=>
  obtain⟨ob,hg,h⟩:=Rd.bind_some h;have hg:=cM hg;cases ob with
  |row e' ex ys=>obtain⟨rfl,rfl⟩:=bn (aq h);exact ofR hg hx
  |ej e' ys=>obtain⟨rfl,rfl⟩:=bn (aq h);exact ofH (mh bI hg hx)
  |_=>simp at h
 |inn n i j=>
  obtain⟨ob,hg,h⟩:=Rd.bind_some h;have hg:=cM hg;cases ob with
  |row e' ex ys=>
   cases ex with
   |false=>simp at h
   |true=>
   obtain⟨t1,UG,h⟩:=Rd.bind_some h;have UG:=de UG;split at h
   ·rename_i e2 wP;obtain⟨rfl,rfl⟩:=bn (aq h);obtain⟨⟨nc,hx⟩,_⟩:=hx;obtain⟨zs,y,t2,q1,q2,q3,q4,q5,q6,q7,q8⟩:=vB bI hg UG wP nc;obtain rfl:te=t2:=aq (ht.symm.trans q3);rw[dY q1 q2];have:=Ew q7 q8;rw[nI,q5]at this;subst hx;exact⟨this,q6,qe q7⟩
   ·simp at h
  |_=>simp at h
 |_=>simp[jM]at h
end
end Go.FG

namespace Go.FG
def eE(E:eh)(w:bf)(c:dJ)(vals:cG aR)(xs:ak AV):Prop:=
 vals.size=xs.length/\∀(j:au) (a:AV),xs[j]? =ab a->∃u:aR,vals[j]? =ab u/\dz E w c a u
theorem m9.cells{E:eh}{w:bf}{c:dJ}{agg:aL}{xs:ak AV}{v:aR}(h:m9 E w c agg xs v):eE E w c v.cells xs:=by
 unfold m9 at h;split at h
 ·rename_i a;rw[yP h.one];refine⟨rfl,λj a' hj=> ?_⟩
  cases j with
  |zero=>simp at hj;subst hj;exact⟨v,rfl,h⟩
  |succ=>simp at hj
 ·obtain⟨vals,rfl,hs,hv⟩:=h;exact⟨hs,hv⟩
 ·exact h.elim
theorem eE.one{E:eh}{w:bf}{c:dJ}{xs:ak AV}{vals:cG aR}(h:eE E w c vals xs):∀u∈vals.toList,u.oneCell'=true:=by
 intro u hu;obtain⟨j,hj⟩:=bB hu;have ix:j<xs.length:=by rw[<-h.1];have:=(aG.1 hj).1;simpa using this
 obtain⟨u',h1,h2⟩:=h.2 j xs[j] (by simp[ix]);rw[bY,h1]at hj;cases hj;exact h2.one
theorem qF{α:Type}{xs ys:ak α}{j:au}(h:j+ys.length<=xs.length):(gb xs j ys).length=xs.length:=by unfold gb;simp;omega
theorem mr{α:Type}{xs ys:ak α}{j:au}(h:j+ys.length<=xs.length)(k:au):(gb xs j ys)[k]? =if j<=k/\k<j+ys.length then ys[k-j]? else xs[k]? :=by
 unfold gb;by_cases h1:k<j
 ·rw[bF (by omega),bR,cS (by simp;omega),dj,br h1]
 ·by_cases h2:k<j+ys.length
  ·rw[br ⟨by omega,h2⟩,bR,cm (by simp;omega),cS (by simp;omega)];congr 1;simp;omega
  ·rw[bF (by omega),bR,cm (by simp;omega),cm (by simp;omega),c7];congr 1;simp;omega
theorem wW{α:Type}{xs ys:ak α}{j:au}{x:α}(h:x∈gb xs j ys):x∈xs\/x∈ys:=by
 unfold gb at h;simp only[aQ]at h;rcases h with (h|h)|h
 ·exact .inl (iN h)
 ·exact .inr h
 ·exact .inl (iM h)
theorem eE.put{E:eh}{w:bf}{c:dJ}{xs ys:ak AV}{vals vs:cG aR}(h:eE E w c vals xs)(h':eE E w c vs ys){j:au}(hl:j+ys.length<=xs.length):eE E w c (dq vals j vs.toList) (gb xs j ys):=by
 have hb:j+vs.toList.length<=vals.size:=by rw[h.1,c8,h'.1];exact hl
 refine⟨by rw[dL hb,qF hl];exact h.1,λk a hk=> ?_⟩
 rw[mr hl]at hk;rw[eL hb,c8,h'.1];split at hk
 ·rename_i hc;rw[br hc,bY];exact h'.2 _ a hk
 ·rename_i hc;rw[bF hc];exact h.2 k a hk
theorem JQ(off:au):∀(l:ak aR) (k:au) (cells:cG aR),off+k+l.length<=cells.size->
  ((l.zipIdx k).foldl (λr p=>r.setIfInBounds (off+p.2) p.1) cells).size=cells.size/\
  ∀q:au,((l.zipIdx k).foldl (λr p=>r.setIfInBounds (off+p.2) p.1) cells)[q]? =if off+k<=q/\q<off+k+l.length then l[q-(off+k)]? else cells[q]? :=by
 intro l;induction l with
 |nil=>intro k cells _;refine⟨rfl,λq=> ?_⟩;rw[bF (by simp)];rfl
 |cons v rest ih=>
  intro k cells hl;simp only[cE]at hl;obtain⟨h1,h2⟩:=ih (k+1) (cells.setIfInBounds (off+k) v) (by simp;omega);simp only[List.zipIdx_cons,List.foldl_cons];refine⟨by rw[h1];simp,λq=> ?_⟩
  rw[h2 q];by_cases hq:q=off+k
  ·subst hq;rw[bF (by omega),br ⟨by omega,by simp⟩,ly,br rfl,br (by omega)];simp
  ·by_cases hr:off+(k+1)<=q/\q<off+(k+1)+rest.length
   ·rw[br hr,br ⟨by omega,by simp;omega⟩];rw[show q-(off+k)=(q-(off+(k+1)))+1 by omega,cZ]
   ·rw[bF hr,bF (by simp;omega),ly,bF (λh=>hq h.symm)]
theorem yV{off:au}{vs cells:cG aR}(h:off+vs.size<=cells.size):(vs.zipIdx.foldl (λr (p:aR×au)=>r.setIfInBounds (off+p.2) p.1) cells)=dq cells off vs.toList:=by
 rw[<-Array.foldl_toList,Array.toList_zipIdx];obtain⟨h1,h2⟩:=JQ off vs.toList 0 cells (by simpa using h);have hb:off+vs.toList.length<=cells.size:=by simpa using h
 apply Array.ext_getElem?;intro q;rw[h2 q,eL hb];simp
theorem HQ{E:eh}{w:bf}{c:dJ}{k:Ck}(h:(match k with| .o=>ah|_=>ae)=ae):dz E w c (xO k) (fL k):=by cases k<;>first|rfl|exact⟨rfl,bT _⟩|simp at h
theorem wZ(k:Ck):bh (xO k)=[]:=by cases k<;>rfl
theorem CW{E:eh}{w:bf}{c:dJ}{ks:ak Ck}(h:D9 ks=ae):eE E w c (ks.map fL).toArray (ks.map xO):=by
 refine⟨by simp,λj a hj=> ?_⟩
 rw[bc]at hj;cases hk:ks[j]? with
 |none=>rw[hk]at hj;cases hj
 |some k=>rw[hk]at hj;cases hj;exact⟨fL k,by simp[hk],HQ (aZ.1 h k (aD hk))⟩
section
variable {P:b9} {E:eh} {σ:St} {a:Act} {w:bf} {c:dJ} {o:dU} {nm:au} {e:o7}
theorem Ht(hE:dv P E)(cU:dX E σ a w c){t:au}{pl:ak (au×au)}{size:au}(oW:∀f o n,E.fo t f=ab (o,n)->pl[f]? =ab (o,n)/\o+n<=size):∀(ps:ak (au×cL)) (l:ak (au×ak AV)),(AP E t ps).val σ=ab l->
  ∀(vals:cG aR) (xs:ak AV),eE E w c vals xs->xs.length=size->(∀a∈xs,gp σ a)->
  ∃gh,mA (λi=>pl[i]?) vals (ps.map λ(i,x)=>(i,a.eval x))=ab gh/\eE E w c gh (Fu xs l)/\(∀a∈Fu xs l,gp σ a):=by
 intro ps;induction ps with
 |nil=>intro l h vals xs hv _ hk;obtain rfl:=aq h;exact⟨vals,rfl,hv,hk⟩
 |cons p r ih=>
  obtain⟨f,x⟩:=p;intro l h vals xs hv eM hk;obtain⟨v,h1,h⟩:=Rd.bind_some h;obtain⟨G_,Zg⟩:=jH cU h1;cases v with
  |v g ys=>
   replace h:(match E.fo t f with|some (o,n)=>bif a_ ys.length n then(AP E t r).bind λl=> .ret ((o,ys)::l)else .fail|none=> .fail:Rd (ak (au×ak AV))).val σ=ab l:=h;cases hf:E.fo t f with
   |none=>rw[hf]at h;simp at h
   |some q=>
    obtain⟨off,n⟩:=q;rw[hf]at h;obtain⟨hn,h⟩:=bQ h;have hn:=aJ hn;obtain⟨l',hl',h⟩:=Rd.bind_some h;obtain rfl:=aq h;obtain⟨FL,Ww⟩:=oW f off n hf;have hc:=m9.cells G_;have mJ:off+ys.length<=xs.length:=by omega
    obtain⟨gh,q1,q2,q3⟩:=ih l' hl' (dq vals off (a.eval x).cells.toList) (gb xs off ys) (hv.put hc mJ) (by rw[qF mJ];exact eM)
     (λb hb=>by
      rcases wW hb with hb|hb
      ·exact hk b hb
      ·exact λn hn=>Zg n (bg.2 ⟨b,hb,hn⟩))
    refine⟨gh, ?_,q2,q3⟩
    simp only[dW,mA,FL];have c1:(a.eval x).cells.size=n:=by rw[hc.1,hn]
    have c2:¬(off+(a.eval x).cells.size>vals.size):=by rw[hc.1,hv.1];omega
    rw[bF (by simp[c1];rw[c1]at c2;omega)];have:=yV (off:=off) (vs:=(a.eval x).cells) (cells:=vals) (by omega);rw[<-q1];exact o6 (λz=>mA (λi=>pl[i]?) z _) this
  |gM=>simp at h
  |un=>simp at h
theorem KN(hE:dv P E)(bI:Ok E σ w c)(cU:dX E σ a w c)(hd:∀d,o.dst=ab d->d<a.tmps.size){t:au}{ps:cG (au×cL)}(ho:o.op= .build t ps)(h:(jz E nm o).val σ=ab e):e7 P E σ a w c o e.ws:=by simp only[jz,ho]at h;obtain⟨ti,h1,h⟩:=Rd.bind_some h;obtain⟨hb,h⟩:=bQ h;obtain⟨l,h2,h⟩:=Rd.bind_some h;have ht:=de h1;simp only[az]at hb;obtain⟨wS,p8⟩:=hb;obtain⟨inf,hi,eM,_,_,hz⟩:=hE.info t ti ht;obtain⟨z,C1,yo,_⟩:=hz wS;obtain⟨d,P0,ha,_⟩:=hE.desc t ti ht;obtain⟨fs,rfl,Mo⟩:=ha p8;obtain⟨pl,FL,Ww⟩:=hE.pl t ti ht p8 fs P0;obtain⟨vals,q1,q2,q3⟩:=Ht (size:=ti.ks.length) hE cU (λf o n hf=>⟨Ww f o n hf,(Mo f o n hf).choose_spec.2.2.2.2⟩) ps.toList l h2 _ _ (CW (w:=w) (c:=c) (E:=E) wS) (by simp) (λb hb=>by obtain⟨k,_,rfl⟩:=b7.1 hb;exact qa (wZ k));refine eC bI cU hd h (v:= .agg vals) ⟨vals,rfl,q2.1,q2.2⟩ (λn hn=>by obtain⟨x,hx,hn⟩:=bg.1 hn;exact q3 x hx n hn) ?_;unfold execOp;rw[ho];refine fY (run_build w t _ vals ?_);simp only[Program.built,hi,P0,C1,FL,yo,fm,uK];exact q1
theorem KP(hE:dv P E)(bI:Ok E σ w c)(cU:dX E σ a w c)(hd:∀d,o.dst=ab d->d<a.tmps.size){t f:au}{x:cL}(ho:o.op= .field t x f)(h:(jz E nm o).val σ=ab e):e7 P E σ a w c o e.ws:=by
 simp only[jz,ho]at h;obtain⟨v,h1,h⟩:=Rd.bind_some h;obtain⟨hv,hk⟩:=jH cU h1;cases v with
 |v g xs=>
  cases g with
  |true=>
   cases hf:E.fo t f with
   |none=>rw[hf]at h;simp at h
   |some r=>
    obtain⟨j,n⟩:=r;rw[hf]at h;obtain⟨hb,h⟩:=bQ h;rw[az]at hb;cases hx:xs.drop j with
    |nil=>rw[hx]at h;simp at h
    |cons y ys=>
     rw[hx]at h;have hj:xs[j]? =ab y:=by have:=c7 (xs:=xs) (i:=j) (j:=0);rw[hx]at this;simpa using this.symm
     obtain⟨vals,q1,q2,q3⟩:∃vals:cG aR,a.eval x= .agg vals/\vals.size=xs.length/\∀(j:au) (b:AV),xs[j]? =ab b->∃u:aR,vals[j]? =ab u/\dz E w c b u:=hv;obtain⟨u,hu,Ml⟩:=q3 j y hj;obtain⟨ti,ht,p8⟩:=hE.fo t f j n hf;obtain⟨d,P0,ha,_⟩:=hE.desc t ti ht;obtain⟨fs,rfl,Mo⟩:=ha p8;obtain⟨fd,g1,g2,_⟩:=Mo f j n hf;have Y9:=hE.fl t f hb.1 fs fd P0 g1 w;refine eC bI cU hd h (s:= .v ah [y]) (v:=u) Ml (λm hm=>hk m (bg.2 ⟨y,aD hj,by simpa [bO]using hm⟩)) ?_;unfold execOp;rw[ho];refine fY ?_;simp only[Instr.field,bJ,run_underlying P0,ba,g1,q1,asAgg,bV,part,Y9,cJ,if_false,g2,hu]
  |false=>simp at h
 |gM=>simp at h
 |un=>simp at h
theorem KL(hE:dv P E)(bI:Ok E σ w c)(cU:dX E σ a w c)(hd:∀d,o.dst=ab d->d<a.tmps.size){t:au}(ho:o.op= .alloc t)(h:(jz E nm o).val σ=ab e):e7 P E σ a w c o e.ws:=by
 simp only[jz,ho]at h;obtain⟨ti,h1,h⟩:=Rd.bind_some h;obtain⟨hb,h⟩:=bQ h;obtain⟨u,h2,h⟩:=Rd.bind_some h;obtain⟨hf,ix⟩:=iB h2;obtain rfl:=aq h;have hr:=HC (P:=P) w hE (de h1) hb;refine wL bI cU hd (p:=⟨ah,w.heap.size,0,0,0,0⟩) (g:=λ_ _=>⟨ah,0,0,0,0,0⟩) hf ix (λc' hP _ _ _=> ?_) (λc' hP _ b hb=> ?_) (λxs hx b hb=> ?_) (λc' hP _=> ?_) (λn hn=> .inl (by simpa [bO,bh]using hn)) (λb hb=>heap_alloc_old w _ b hb) (by simp) rfl rfl rfl (v:= .pointer (ab (ad w.heap.size 0))) (w':=w.alloc (.cells (ti.ks.map fL).toArray t)) ?_
 ·obtain⟨z1,z2⟩:=CW (E:=E) (w:=w.alloc (.cells (ti.ks.map fL).toArray t)) (c:=c') hb;exact⟨_,by rw[hP];exact k8.alloc w _ t,z1,z2⟩
 ·have:b=(c'.P nm).blk:=hb;rw[this,hP];exact cD _
 ·cases hx;obtain⟨k,_,rfl⟩:=b7.1 hb;exact qa (wZ k)
 ·show _=_;rw[hP]
 ·unfold execOp;rw[ho];exact fY hr
theorem TT(bI:Ok E σ w c)(cU:dX E σ a w c)(hd:∀d,o.dst=ab d->d<a.tmps.size){t:au}{x:cL}(ho:o.op= .box t x)(h:(jz E nm o).val σ=ab e):e7 P E σ a w c o e.ws:=by
 simp only[jz,ho]at h;obtain⟨v,h1,h⟩:=Rd.bind_some h;obtain⟨hv,hk⟩:=jH cU h1;cases v with
 |v g xs=>
  obtain⟨u,h2,h⟩:=Rd.bind_some h;obtain⟨hf,ix⟩:=iB h2;obtain rfl:=aq h;have hr:=Ld (P:=P) w t (a.eval x);have kx:∀b∈xs,gp σ b:=λb hb n hn=>hk n (bg.2 ⟨b,hb,hn⟩);have mI:=m9.cells hv;refine wL bI cU hd (p:=⟨ah,w.heap.size,0,0,0,0⟩) (g:=λ_ _=>⟨ah,0,0,0,0,0⟩) hf ix (λc' hP _ hK hA=> ?_) (λc' hP _ b hb=> ?_) (λys hx b hb=> ?_) (λc' hP _=> ?_) (λn hn=> .inl (by simpa [bO,bh]using hn)) (λb hb=>heap_alloc_old w _ b hb) (by simp) rfl rfl rfl (v:= .pointer (ab (ad w.heap.size 0))) (w':=w.alloc (.cells (a.eval x).cells t)) ?_
  ·refine⟨_,by rw[hP];exact k8.alloc w _ t,mI.1,λj y hj=> ?_⟩
   obtain⟨u,hu,hy⟩:=mI.2 j y hj;exact⟨u,hu,hy.frame (λb hb=>heap_alloc_old w _ b (bI.lt b hb)) hK (λn hn=>hA n (.inl (kx y (aD hj) n hn)))⟩
  ·have:b=(c'.P nm).blk:=hb;rw[this,hP];exact cD _
  ·cases hx;exact kx b hb
  ·show _=_;rw[hP]
  ·unfold execOp;rw[ho];exact fY hr
 |gM=>simp at h
 |un=>simp at h
end
end Go.FG

namespace Go.FG
def D7(E:eh)(ks:ak Ck)(_i j:au):Pl:=
 ⟨ae,0,0,0,0,match ks[j]? with|some (.l e)=>(match E.ty e with|some t=>t.ks.length|none=>0)|_=>0⟩
theorem q_{p:Pl}{G:au->au->Pl}{xs:aY}(h:∀i j,(G i j).nil=ae):zL p G xs:=
 ⟨λi j _ hn=>(by rw[h]at hn;cases hn),λi j i' j' _ _ hn=>(by rw[h]at hn;cases hn)⟩
theorem Gr{E:eh}{w:bf}{ks:ak Ck}(hf:flat E ks=ae)(hn:D9 ks=ae){i j:au}{k:Ck}(hk:ks[j]? =ab k):XC E w (D7 E ks) i j (fL k) (uj k):=by
 have h1:=aZ.1 hf k (aD hk);have h2:=aZ.1 hn k (aD hk);cases k with
 |l e=>
  replace h1:(match E.ty e with|some ti=>plain ti.ks|none=>ah)=true:=h1;cases ht:E.ty e with
  |none=>rw[ht]at h1;cases h1
  |some t=>
   rw[ht]at h1;refine⟨rfl,t,ht,h1, ?_,λy hy=>(by cases hy),⟨rfl,λ_=>⟨rfl,rfl⟩,λh=>by cases h⟩⟩
   show(match ks[j]? with|some (.l e)=>(match E.ty e with|some t=>t.ks.length|none=>0)|_=>0)=_;rw[hk];simp only[ht]
 |o=>cases h2
 |s=>exact⟨rfl,bT _⟩
 |_=>exact⟨rfl,trivial⟩
theorem EJ{E:eh}{w:bf}{K:au->Prop}{k:Ck}(h2:(match k with| .o=>ah|_=>ae)=ae):ch E w K (fL k) (uj k):=by
 cases k with
 |o=>cases h2
 |i k=>exact .i _ _
 |b=>exact .b _
 |s=>exact .s _ (bT _)
 |l e=>exact .nl _ _ _
theorem O2{k:Ck}(h2:(match k with| .o=>ah|_=>ae)=ae):(uj k).kd=k:=by cases k<;>first|rfl|cases h2
theorem sS{ks:ak Ck}(hn:D9 ks=ae)(n:au):∀y∈aM ks n,y.map CV.kd=ks:=by
 intro y hy;rw[(List.mem_replicate.1 hy).2,jC];have:∀k∈ks,(CV.kd∘uj) k=k:=λk hk=>O2 (aZ.1 hn k hk);conv=>rhs;rw[<-List.map_id ks]
 exact HV this
theorem qj{ks:ak Ck}{n i j:au}{y:ak CV}{x:CV}(hi:(aM ks n)[i]? =ab y)(hj:y[j]? =ab x):i<n/\∃k,ks[j]? =ab k/\x=uj k:=by
 unfold aM at hi;have ix:=(aG.1 hi).1;rw[List.length_replicate]at ix;rw[List.getElem?_replicate,br ix]at hi;cases hi;rw[bc]at hj;cases hk:ks[j]? with
 |none=>rw[hk]at hj;cases hj
 |some k=>rw[hk]at hj;cases hj;exact⟨ix,k,rfl,rfl⟩
theorem jl{ks:ak Ck}{n i j:au}{k:Ck}(hi:i<n)(hk:ks[j]? =ab k):(madeCells (ks.map fL).toArray (n*ks.length))[i*ks.length+j]? =ab (fL k):=by
 have hj:=(aG.1 hk).1;have ix:i*ks.length+j<n*ks.length:=by have:(i+1)*ks.length<=n*ks.length:=bD _ hi;rw[cB]at this;omega
 have hm:(i*ks.length+j)%ks.length=j:=by rw[yH,Nat.mul_add_mod];exact Nat.mod_eq_of_lt hj
 unfold madeCells;rw[Gw,Array.getElem?_range,br ix,gm];congr 1;simp only[Mf,bC,hm];rw[getElem!_def,fm,bc,hk];rfl
theorem tP{P:b9}{E:eh}{σ:St}(hE:dv P E){t:au}{k:ki}(h:(mT E t).val σ=ab (.i k)):P.underlying t=ab (.int k):=by obtain⟨ti,h1,h2,h3⟩:=od h;obtain⟨d,hd,_,hn⟩:=hE.desc t ti h1;rcases hn h2 with ⟨k,h,rfl⟩|⟨h,_⟩|⟨h,_⟩|⟨e',h,_⟩|⟨h,_⟩<;>rw[h3]at h<;>simp_all
theorem Fk{P:b9}{E:eh}(hE:dv P E){e:au}{te:TI}(ht:E.ty e=ab te)(h:(Ua te.ks&& !te.agg)=ae):te.ks=[.i .u8]/\P.underlying e=ab (.int .u8):=by
 simp only[az,dt]at h;have hk:te.ks=[.i .u8]:=by
  have:=h.1;unfold Ua at this;split at this
  ·assumption
  ·cases this
 obtain⟨d,hd,_,hn⟩:=hE.desc e te ht;refine⟨hk, ?_⟩
 rcases hn h.2 with ⟨k,h,rfl⟩|⟨h,_⟩|⟨h,_⟩|⟨e',h,_⟩|⟨h,_⟩<;>rw[hk]at h<;>simp_all
section
variable {P:b9} {E:eh} {σ:St} {a:Act} {w:bf} {c:dJ} {o:dU} {nm:au} {e:o7}
theorem HD(hE:dv P E){src dst el:au}{te:TI}(hs:P.underlying src=ab (.slice el))(hd:P.underlying dst=ab .string)(he:P.underlying el=ab (.int .u8))(hk:te.ks=[.i .u8]){v:aR}{xs:aY}
  (h:lz w v xs te.ks.length (λ_ _ u x=>Sc u x)) (jR:∀y∈xs,y.map CV.kd=te.ks):(convert src dst v).run P w= .ok (.string (bytesOf xs)) w:=by
 obtain⟨A,cp,rfl,h2⟩:=h;by_cases hx:xs=[]
 ·subst hx;rw[gX];have e0:bytesOf []=C5:=rfl;rw[e0];cases A with
  |none=>exact run_convert_bytes_nil w src el hs he 0 cp dst hd
  |some ad'=>rw[run_convert_bytes_string w src dst el _ 0 cp hs he hd];exact run_bytesToString w ad' 0 cp [] rfl
 ·obtain⟨b,oo,rfl,h3⟩:=h2 hx;have:=run_convert_bytes_arg w src el hs he b oo xs.length cp (xs.map λy=>cw (y.getD 0 (.b ah))) (by simp) (λi hi=>by
   have hy:=jR xs[i] (bk hi);rw[hk]at hy;cases hq:xs[i]with
   |nil=>rw[hq]at hy;cases hy
   |cons x r=>
    rw[hq]at hy;simp only[dW,Pz,List.map_eq_nil_iff]at hy;obtain⟨UJ,rfl⟩:=hy;obtain⟨u,hu,hr⟩:=h3 i xs[i] 0 x (by simp[hi]) (by rw[hq];rfl);rw[hk]at hu;simp only[cE,gX,bu,Nat.mul_one,tn]at hu;rw[hu,hr.1];cases x with
    |i k n=>cases UJ;simp[HH,gW,hi,hq,cw]
    |_=>cases UJ) dst hd
  rw[this];unfold strOfNums bytesOf;rw[jC];rfl
theorem fQ(xs:aY):(bytesOf xs).size=xs.length:=by unfold bytesOf;simp[fW]
theorem jy(s:ai):(nE s).length=s.size:=by unfold nE;simp
theorem AU{s:ai}{i j:au}{y:ak CV}{x:CV}(hi:(nE s)[i]? =ab y)(hj:y[j]? =ab x):j=0/\∃b,s.data[i]? =ab b/\x= .i .u8 (b.toNat:ax):=by
 unfold nE at hi;rw[bc,bY]at hi;cases hb:s.data[i]? with
 |none=>rw[hb]at hi;cases hi
 |some b=>
  rw[hb]at hi;cases hi;cases j with
  |zero=>cases hj;exact⟨rfl,b,rfl,rfl⟩
  |succ j=>simp at hj
theorem CA(s:ai):∀y∈nE s,y.map CV.kd=[.i .u8]:=by intro y hy;obtain⟨b,_,rfl⟩:=b7.1 hy;rfl
theorem Eb(hE:dv P E)(bI:Ok E σ w c)(cU:dX E σ a w c)(hd:∀d,o.dst=ab d->d<a.tmps.size){src dst:au}{x:cL}(ho:o.op= .convert src dst x)(h:(jz E nm o).val σ=ab e)(hc:e.cond=ae):e7 P E σ a w c o e.ws:=by
 simp only[jz,ho]at h;obtain⟨ks,h1,h⟩:=Rd.bind_some h;obtain⟨kd,h2,h⟩:=Rd.bind_some h;obtain⟨v,h3,h⟩:=Rd.bind_some h;obtain⟨ev,kv⟩:=gd cU h3;have exec:∀{u r:aR} {w':bf},a.eval x=u->(convert src dst u).run P w= .ok r w'->(execOp a.eval o).run P w= .ok (.value r) w':=by intro u r w' hu hr;unfold execOp;rw[ho];exact fY (by rw[hu];exact hr)
 cases kd with
 |i k=>
  cases ks with
  |i k0=>
   cases v with
   |i k1 n=>refine eC bI cU hd h (v:= .int k (k.wrap n)) rfl (λn hn=>by simp[bO,bh]at hn) (exec ev ?_);simp[convert,run_underlying (tP hE h1),run_underlying (tP hE h2),Conv.intToInt]
   |_=>simp at h
  |_=>simp at h
 |s=>
  have wM:=iR hE h2;cases ks with
  |s=>
   cases v with
   |s s=>refine eC bI cU hd h (v:= .string s) ⟨rfl,ev.2⟩ (λn hn=>by simp[bO,bh]at hn) (exec ev.1 ?_);simp[convert,run_underlying (iR hE h1),run_underlying wM]
   |_=>simp at h
  |l el=>
   have ym:=iD hE h1;have gen:(∀e,v=e->((jM E e).bind λ(e,xs)=>(oZ E e).bind λte=>bif a_ e el&&Ua te.ks&& !te.agg then EA o (decide (xs.length<=4611686018427387904)) (.s (bytesOf xs))else .fail).val σ=ab ‹o7›)->e7 P E σ a w c o (‹o7›).ws:=by
    intro h;obtain⟨⟨e1,xs⟩,q1,h⟩:=Rd.bind_some (h v rfl);obtain⟨te,q2,h⟩:=Rd.bind_some h;have q2:=de q2;obtain⟨q3,h9⟩:=bQ h;rw[mY,az]at q3;have:=aJ q3.1;subst this;obtain⟨q4,q5⟩:=Fk hE q2 q3.2;have hp:plain te.ks=true:=by rw[q4];rfl
    obtain⟨r1,r2,r3⟩:=uI bI ev q1 q2 hp;exact zu bI cU hd h9 hc (v:= .string (bytesOf xs)) (λhb=>⟨rfl,by unfold Ox;rw[fQ];exact bU hb⟩) (qa rfl) (λ_=>exec rfl (HD hE ym wM q5 q4 r1 r2))
   cases v with
   |nl=>obtain⟨te,q1,h⟩:=Rd.bind_some h;obtain⟨q3,h⟩:=bQ h;obtain⟨q4,q5⟩:=Fk hE (de q1) q3;exact eC bI cU hd h (v:= .string C5) ⟨rfl,bT _⟩ (λn hn=>by simp[bO,bh]at hn) (exec ev (run_convert_bytes_nil w src el ym q5 0 0 dst wM))
   |_=>exact gen (λ_ hv=>by cases hv;exact h)
  |_=>simp at h
 |_=>simp at h
theorem AL(hE:dv P E)(bI:Ok E σ w c)(cU:dX E σ a w c)(hd:∀d,o.dst=ab d->d<a.tmps.size){t:au}{x y:cL}(ho:o.op= .makeSlice t x y)(h:(jz E nm o).val σ=ab e)(hc:e.cond=ae):e7 P E σ a w c o e.ws:=by
 simp only[jz,ho]at h;obtain⟨⟨k1,n⟩,h1,h⟩:=Rd.bind_some h;obtain⟨⟨k2,m⟩,h2,h⟩:=Rd.bind_some h;obtain⟨ti,h3,h⟩:=Rd.bind_some h;have ex:=mU cU h1;have ey:=mU cU h2;have h3:=de h3;split at h
 ·rename_i el p8 yj;obtain⟨te,h4,h⟩:=Rd.bind_some h;have h4:=de h4;obtain⟨h5,h⟩:=bQ h;obtain⟨u,h6,h⟩:=Rd.bind_some h;obtain⟨hf,ix⟩:=iB h6;obtain rfl:=aq h;generalize (bif plain te.ks then nm else nm+999)=nm at hf ix hc⊢;simp only[az,a9,cX]at hc h5;obtain⟨⟨c0,rfl⟩,c1,c2⟩:=hc;obtain⟨wS,Mn⟩:=h5;have hu:=me hE h3 p8 yj;obtain⟨inf,hi,eM,SN,iP,hz⟩:=hE.info el te h4;obtain⟨z,C1,yo,_⟩:=hz wS;have hr:=run_make (P:=P) w t el inf z hu hi C1 k1 k2 n n c0 (Int.le_refl _) (by
   have e1:((n.toNat*te.bytes:au):ax)<=140737488355328:=(by generalize n.toNat*te.bytes=q at c1⊢;omega)
   rw[SN,Int.mul_comm];rw[MG,Int.toNat_of_nonneg c0]at e1;omega) (by omega)
  rw[yo,eM]at hr;refine wL bI cU hd (p:=⟨ah,w.heap.size,0,n.toNat,n.toNat,te.ks.length⟩) (g:=D7 E te.ks) hf ix (λc' hP hG _ _=> ?_) (λc' hP hG b hb=> ?_) (λxs hx b hb=>by cases hx) (λc' hP _=> ?_) (λn hn=> .inl (by simpa [bO,bh]using hn)) (λb hb=>heap_alloc_old w _ b hb) (by simp) rfl rfl rfl (v:= .slice (ab ⟨w.heap.size,0,af⟩) n.toNat n.toNat) (w':=w.alloc (.cells (madeCells (te.ks.map fL).toArray (n.toNat*te.ks.length)) el)) ?_
  ·refine⟨⟨te,h4,by rw[hP],sS wS _⟩, ?_,λ_=>q_ (λi j=>(by rw[hG];try rfl))⟩
   rw[hP,hG];refine⟨by simp[aM],λhn=>(by cases hn),λ_=>⟨_,k8.alloc w _ el,cD _,(by show n.toNat<=2^63-1;omega),by rw[size_madeCells];simp,λi y j x hi hj=> ?_⟩⟩
   obtain⟨fO,k,hk,rfl⟩:=qj hi hj;refine⟨fL k, ?_,by rw[br rfl];exact Gr Mn wS hk⟩
   rw[bu];exact jl fO hk
  ·rcases hb with ⟨_,rfl⟩|⟨_,i,j,_,hn,_⟩
   ·rw[hP];exact cD _
   ·rw[hG]at hn;cases hn
  ·show _=jj _;rw[hP];rfl
  ·unfold execOp;rw[ho];exact fY (by rw[ex,ey];exact hr)
 ·simp at h
end
end Go.FG

namespace Go.FG
theorem g7{xs:aY}{i j:au}{cs:ak CV}:(dP xs i j cs).length=xs.length:=by unfold dP;simp
theorem sH{xs:aY}{i j:au}{cs y:ak CV}(hy:xs[i]? =ab y)(i':au):(dP xs i j cs)[i']? =if i'=i then ab (gb y j cs)else xs[i']? :=by
 have ix:=(aG.1 hy).1;have hd:xs.getD i []=y:=by rw[cT,hy];rfl
 unfold dP;rw[HU,hd];by_cases h:i'=i
 ·subst h;simp[ix]
 ·rw[bF h,bF (λe=>h e.symm)]
theorem k8.uniq{w:bf}{b:au}{v1 v2:cG aR}(h1:k8 w b v1)(h2:k8 w b v2):v1=v2:=by obtain⟨t,fr,h1,_⟩:=h1;obtain⟨t',fr',h2,_⟩:=h2;rw[h1]at h2;cases h2;rfl
theorem gq.pos{w:bf}{p:Pl}{xs:aY}{R:au->au->aR->CV->Prop}(h:gq w p xs R){i:au}(hi:i<p.n):p.nil=ah/\∃vals,k8 w p.blk vals:=by
 have gH:p.nil=false:=by
  cases hn:p.nil with
  |false=>rfl
  |true=>have:=(h.nil hn).1;subst this;have:=h.n;simp at this;omega
 obtain⟨vals,hb,_⟩:=h.mem gH;exact⟨gH,vals,hb⟩
theorem gq.XK{w:bf}{p:Pl}{xs:aY}{R R':au->au->aR->CV->Prop}(h:gq w p xs R){vals:cG aR}(VV:k8 w p.blk vals)(hs:∀y∈xs,y.length=p.sz){i j:au}{cs:ak CV}{vs:ak aR}(hi:i<p.n)(hj:j+cs.length<=p.sz)(hl:vs.length=cs.length)
  (tN:∀(q:au) (x:CV),cs[q]? =ab x->∃u:aR,vs[q]? =ab u/\R' i (j+q) u x)
  (hold:∀(i1:au) (y:ak CV) (j1:au) (x:CV) (u:aR),xs[i1]? =ab y->y[j1]? =ab x->(i1≠i\/¬(j<=j1/\j1<j+cs.length))->R i1 j1 u x->R' i1 j1 u x):
  p.off+i*p.sz+j+vs.length<=vals.size/\gq (w.setRow p.blk (dq vals (p.off+i*p.sz+j) vs)) p (dP xs i j cs) R':=by
 have gH:p.nil=false:=by
  cases hn:p.nil with
  |false=>rfl
  |true=>have:=(h.nil hn).1;subst this;have:=h.n;simp at this;omega
 obtain⟨gh,hb,J6,Nx,mJ,hc⟩:=h.mem gH;obtain rfl:=VV.uniq hb;have jw:i<xs.length:=by rw[<-h.n];exact hi
 have hy:xs[i]? =ab xs[i]:=by simp[jw]
 have B_:=hs xs[i] (bk jw);have h1:(i+1)*p.sz<=p.cap*p.sz:=bD _ (by omega);rw[cB]at h1;have qA:p.off+i*p.sz+j+vs.length<=vals.size:=by omega
 refine⟨qA,⟨by rw[g7];exact h.n,λhn=>(by rw[gH]at hn;cases hn),λ_=> ?_⟩⟩
 refine⟨_,hb.setRow (dL qA),J6,Nx,by rw[dL qA];exact mJ,λi' y j' x nc G6=> ?_⟩
 rw[sH hy]at nc;rw[eL qA];by_cases B2:i'=i
 ·subst B2;rw[br rfl]at nc;cases nc;rw[mr (by omega)]at G6;by_cases hq:j<=j'/\j'<j+cs.length
  ·rw[br hq]at G6;rw[br (by omega)];obtain⟨u,hu,hr⟩:=tN (j'-j) x G6;refine⟨u, ?_, ?_⟩
   ·rw[<-hu];congr 1;omega
   ·rwa[show j+(j'-j)=j' by omega]at hr
  ·rw[bF hq]at G6;obtain⟨u,hu,hr⟩:=hc _ _ _ _ hy G6;exact⟨u,by rw[bF (by omega)];exact hu,hold _ _ _ _ _ hy G6 (.inr hq) hr⟩
 ·rw[bF B2]at nc;obtain⟨u,hu,hr⟩:=hc _ _ _ _ nc G6;refine⟨u, ?_,hold _ _ _ _ _ nc G6 (.inl B2) hr⟩
  have NB:j'<p.sz:=by rw[<-hs y (aD nc)];exact(aG.1 G6).1
  rw[bF ?_];exact hu;rcases HX B2 with ix|hgt
  ·have:(i'+1)*p.sz<=i*p.sz:=bD _ ix;rw[cB]at this;omega
  ·have:(i+1)*p.sz<=i'*p.sz:=bD _ hgt;rw[cB]at this;omega
theorem gq.put{w:bf}{p:Pl}{xs:aY}{R R':au->au->aR->CV->Prop}(h:gq w p xs R){vals:cG aR}(VV:k8 w p.blk vals)(hs:∀y∈xs,y.length=p.sz){i j:au}{cs:ak CV}{vs:ak aR}(hi:i<p.n)(hj:j+cs.length<=p.sz)(hl:vs.length=cs.length)
  (tN:∀(q:au) (x:CV),cs[q]? =ab x->∃u:aR,vs[q]? =ab u/\R' i (j+q) u x)
  (hold:∀(i:au) (y:ak CV) (j:au) (x:CV) (u:aR),xs[i]? =ab y->y[j]? =ab x->R i j u x->R' i j u x):
  p.off+i*p.sz+j+vs.length<=vals.size/\gq (w.setRow p.blk (dq vals (p.off+i*p.sz+j) vs)) p (dP xs i j cs) R':=
 h.XK VV hs hi hj hl tN (λi1 y j1 x u h1 h2 _ hr=>hold i1 y j1 x u h1 h2 hr)
theorem iQ{xs:aY}{ks:ak Ck}(h:∀y∈xs,y.map CV.kd=ks)(i j:au):eK xs i j↔i<xs.length/\∃e,ks[j]? =ab (.l e):=by
 constructor
 ·rintro ⟨y,x,hy,hx,hl⟩;refine⟨(aG.1 hy).1, ?_⟩
  cases x with
  |l e ys=>exact⟨e,by rw[<-h y (aD hy),bc,hx];rfl⟩
  |i=>simp[p_]at hl
  |b=>simp[p_]at hl
  |s=>simp[p_]at hl
 ·rintro ⟨hi,e,hk⟩;have hy:xs[i]? =ab xs[i]:=by simp[hi]
  have h1:=h xs[i] (bk hi);rw[<-h1,bc]at hk;cases hx:xs[i][j]? with
  |none=>rw[hx]at hk;cases hk
  |some x=>
   rw[hx]at hk;cases x with
   |l e2 ys=>exact⟨_,_,hy,hx,rfl⟩
   |i=>cases hk
   |b=>cases hk
   |s=>cases hk
theorem Hc{y cs:ak CV}{ks:ak Ck}{j:au}(hy:y.map CV.kd=ks)(hc:cs.map CV.kd=(ks.drop j).take cs.length)(hj:j+cs.length<=ks.length):(gb y j cs).map CV.kd=ks:=by
 have hl:y.length=ks.length:=by rw[<-hy];simp
 apply Md;intro q;rw[bc,mr (by omega)];split
 ·rename_i h;have:(cs.map CV.kd)[q-j]? =((ks.drop j).take cs.length)[q-j]? :=by rw[hc]
  rw[bc]at this;rw[this,dj,br (by omega),c7];congr 1;omega
 ·rw[<-hy,bc]
theorem sI{xs:aY}{ks:ak Ck}{i j:au}{cs:ak CV}(h:∀y∈xs,y.map CV.kd=ks)(hc:cs.map CV.kd=(ks.drop j).take cs.length)(hj:j+cs.length<=ks.length)(hi:i<xs.length):∀y∈dP xs i j cs,y.map CV.kd=ks:=by
 intro y hy;obtain⟨q,hq⟩:=bB hy;rw[sH (y:=xs[i]) (by simp[hi])]at hq;split at hq
 ·cases hq;exact Hc (h _ (bk hi)) hc hj
 ·exact h y (aD hq)
section
variable {P:b9} {E:eh} {σ:St} {a:Act} {w:bf} {c:dJ} {o:dU} {nm:au} {e:o7}
theorem tJ{ex:aL}{k:Ck}{x:AV}{cv:CV}{ws:ak (au×dF)}{u:aR}(hp:plain [k]=ae)(h:(BL ex k x).val σ=ab (cv,ws))(hx:dz E w c x u):cv.kd=k/\Sc u cv/\p_ cv=ah/\ws=[]:=by
 cases k with
 |i k=>
  cases x with
  |i k' n=>
   replace h:(if k=k' then Rd.ret (CV.i k n,[])else .fail:Rd (CV×ak (au×dF))).val σ=ab (cv,ws):=h;split at h
   ·rename_i hk;subst hk;obtain⟨rfl,rfl⟩:=bn (aq h);exact⟨rfl,⟨hx,trivial⟩,rfl,rfl⟩
   ·simp at h
  |_=>simp[BL]at h
 |b=>
  cases x with
  |b n=>obtain⟨rfl,rfl⟩:=bn (aq h);exact⟨rfl,⟨hx,trivial⟩,rfl,rfl⟩
  |_=>simp[BL]at h
 |s=>
  cases x with
  |s n=>obtain⟨rfl,rfl⟩:=bn (aq h);exact⟨rfl,hx,rfl,rfl⟩
  |_=>simp[BL]at h
 |l=>simp[plain]at hp
 |o=>simp[plain]at hp
theorem wB{ex:aL}:∀{ks:ak Ck} {xs:ak AV} {cs:ak CV} {ws:ak (au×dF)} (hp:plain ks=ae) (h:(tK ex ks xs).val σ=ab (cs,ws)),cs.map CV.kd=ks/\cs.length=xs.length/\ws=[]/\
  ∀(vals:cG aR),eE E w c vals xs->∀(q:au) (x:CV),cs[q]? =ab x->vals[q]? =ab (HH x)/\p_ x=ah/\okC x:=by
 intro ks;induction ks with
 |nil=>
  intro xs cs ws hp h;cases xs with
  |nil=>obtain⟨rfl,rfl⟩:=bn (aq h);exact⟨rfl,rfl,rfl,λ_ _ q x hq=>by simp at hq⟩
  |cons=>simp[tK]at h
 |cons k ks ih=>
  intro xs cs ws hp h;cases xs with
  |nil=>simp[tK]at h
  |cons x xs=>
   obtain⟨⟨cv,w1⟩,h1,h⟩:=Rd.bind_some h;obtain⟨⟨cr,w2⟩,h2,h⟩:=Rd.bind_some h;obtain⟨rfl,rfl⟩:=bn (aq h);simp only[plain,oP,az]at hp;have FL:plain [k]=true:=by simp[plain,hp.1]
   have Ww:plain ks=true:=hp.2;obtain⟨i1,i2,i3,i4⟩:=ih Ww h2;have e1:=λu (hu:dz E w c x u)=>tJ FL h1 hu;have Qq:cv.kd=k/\w1=[]:=by
    cases k<;>cases x<;>simp[BL,plain]at h1 FL<;>first
     |(obtain⟨rfl,rfl⟩:=h1;exact⟨rfl,rfl⟩)
     |(split at h1<;>simp at h1;rename_i hk;subst hk;obtain⟨rfl,rfl⟩:=h1;exact⟨rfl,rfl⟩)
   refine⟨by simp[Qq.1,i1],by simp[i2],by rw[Qq.2,i3];rfl,λvals hv q y hq=> ?_⟩
   cases q with
   |zero=>cases hq;obtain⟨u,hu,ha⟩:=hv.2 0 x rfl;obtain⟨_,⟨rfl,ho⟩,hl,_⟩:=e1 u ha;exact⟨hu,hl,ho⟩
   |succ q=>
    have FN:eE E w c (vals.extract 1 vals.size) xs:=by
     refine⟨by simp;have:=hv.1;simp at this;omega,λj b hj=> ?_⟩
     obtain⟨u,hu,hb⟩:=hv.2 (j+1) b hj;refine⟨u, ?_,hb⟩
     have:=(c_.1 hu).1;rw[dn,br (by omega),gf];exact hu
    obtain⟨r1,r2⟩:=i4 _ FN q y hq;refine⟨?_,r2⟩
    rw[dn]at r1;split at r1
    ·rw[gf];exact r1
    ·cases r1
theorem OY{s:Sem Unit}{w':bf}(hr:s.run P w= .ok () w'):(do s;pure Next.skip:Sem Next).run P w= .ok .skip w':=by simp only[bJ,hr,ba,bV]
theorem zj:∀{ys:ak AV} {q0 q n2:au},tX q0 ys=ab (q,n2)->q0<=q/\ys[q-q0]? =ab (.own n2)/\∀(k m:au),ys[k]? =ab (.own m)->k=q-q0:=by
 have Ou:∀{ys:ak AV},Cp ys=ae->∀(k m:au),ys[k]? ≠ab (.own m):=by
  intro ys;induction ys with
  |nil=>intro h k m h;simp at h
  |cons y ys ih=>
   intro h k m hk;cases y with
   |own n=>cases h
   |_=>
    cases k with
    |zero=>cases hk
    |succ k=>exact ih (by simpa [Cp]using h) k m hk
 intro ys;induction ys with
 |nil=>intro q0 q n2 h;cases h
 |cons y ys ih=>
  intro q0 q n2 h;have step:tX (q0+1) ys=ab (q,n2)->(∀m,y≠ .own m)->q0<=q/\(y::ys)[q-q0]? =ab (.own n2)/\∀(k m:au),(y::ys)[k]? =ab (.own m)->k=q-q0:=by
   intro h hy;obtain⟨h1,h2,h3⟩:=ih h;have e:q-q0=(q-(q0+1))+1:=by omega
   refine⟨by omega,by rw[e,cZ];exact h2,λk m hk=> ?_⟩
   cases k with
   |zero=>cases hk;exact bS rfl (hy m)
   |succ k=>have:=h3 k m hk;omega
  cases y with
  |own n=>
   unfold tX at h;cases h1:Cp ys with
   |false=>rw[h1]at h;cases h
   |true=>
    rw[h1]at h;cases h;refine⟨cD _,by rw[Mg];rfl,λk m hk=> ?_⟩
    cases k with
    |zero=>omega
    |succ k=>exact bS hk (Ou h1 k m)
  |_=>exact step (by simpa [tX]using h) (λm h=>by cases h)
theorem Nb{E:eh}{w:bf}{c:dJ}{e2 n2:au}{zs:aY}:∀{ks:ak Ck} {ys:ak AV} {cs:ak CV},ye e2 n2 zs ks ys=ab cs->cs.map CV.kd=ks/\cs.length=ys.length/\
  ∀(q:au) (x:CV),cs[q]? =ab x->∃y,ys[q]? =ab y/\((p_ x=ah/\∀u,dz E w c y u->Sc u x)\/(x= .l e2 zs/\y= .own n2)):=by
 intro ks;induction ks with
 |nil=>
  intro ys cs h;cases ys with
  |nil=>cases h;exact⟨rfl,rfl,λq x h=>by simp at h⟩
  |cons=>cases h
 |cons k ks ih=>
  intro ys cs h
  have go:∀{y:AV} {r:ak AV} {x:CV},ys=y::r->(ye e2 n2 zs ks r).map (x:: ·)=ab cs->x.kd=k->((p_ x=ah/\∀u,dz E w c y u->Sc u x)\/(x= .l e2 zs/\y= .own n2))->
    cs.map CV.kd=k::ks/\cs.length=ys.length/\∀(q:au) (x:CV),cs[q]? =ab x->∃y,ys[q]? =ab y/\((p_ x=ah/\∀u,dz E w c y u->Sc u x)\/(x= .l e2 zs/\y= .own n2)):=by
   intro y r x hy hm hk hx
   subst hy
   cases hr:ye e2 n2 zs ks r with
   |none=>rw[hr]at hm;cases hm
   |some cr=>
    rw[hr]at hm;cases hm;obtain⟨i1,i2,i3⟩:=ih hr;refine⟨by simp[hk,i1],by simp[i2],λq z hq=> ?_⟩
    cases q with
    |zero=>cases hq;exact⟨y,rfl,hx⟩
    |succ q=>exact i3 q z hq
  cases ys with
  |nil=>cases k<;>cases h
  |cons y r=>
   cases k with
   |i k=>
    cases y with
    |i k' n=>
     unfold ye at h;split at h
     ·rename_i hk;subst hk;exact go rfl h rfl (.inl ⟨rfl,λu hu=>⟨hu,trivial⟩⟩)
     ·cases h
    |_=>cases h
   |b=>
    cases y with
    |b n=>exact go rfl h rfl (.inl ⟨rfl,λu hu=>⟨hu,trivial⟩⟩)
    |_=>cases h
   |s=>
    cases y with
    |s n=>exact go rfl h rfl (.inl ⟨rfl,λu hu=>hu⟩)
    |_=>cases h
   |l e=>
    cases y with
    |own n=>
     unfold ye at h;cases hb:(a_ e e2&&a_ n n2)with
     |false=>rw[hb]at h;cases h
     |true=>rw[hb,aw]at h;simp only[az]at hb;have:=aJ hb.1;subst this;have:=aJ hb.2;subst this;exact go rfl h rfl (.inr ⟨rfl,rfl⟩)
    |_=>cases h
   |o=>cases y<;>cases h
theorem G0(bI:Ok E σ w c)(cU:dX E σ a w c)(hd:∀d,o.dst=ab d->d<a.tmps.size){n i j:au}{ys:ak AV}{ws:ak (au×dF)}{X:cG aR}(hF:tO n=ae)(hi:i<(c.P n).n)(h:(A1 E n i j ys).val σ=ab ws)(mI:eE E w c X ys)(iP:0<ys.length)
  (exec:∀(cur:cG aR),k8 w (c.P n).blk cur->(c.P n).off+i*(c.P n).sz+j+X.size<=cur.size->(execOp a.eval o).run P w= .ok .skip (w.setRow (c.P n).blk (dq cur ((c.P n).off+i*(c.P n).sz+j) X.toList))):e7 P E σ a w c o (ws++dw o .un):=by
 unfold A1 at h;obtain⟨ob,hg0,h⟩:=Rd.bind_some h;have hg:=cM hg0;split at h
 ·rename_i el xs;obtain⟨te,h6,h⟩:=Rd.bind_some h;have h6:=de h6;split at h
  ·rename_i q n2 sd;cases SK:a_ n n2 with
   |true=>rw[SK]at h;simp at h
   |false=>
    rw[SK,aC]at h;have fP:n≠n2:=λe=>by subst e;rw[Nat.beq_refl]at SK;cases SK
    obtain⟨ob2,abE,h⟩:=Rd.bind_some h;have P4:=cM abE;split at h
    ·rename_i e2 zs;obtain⟨t2,h7,h⟩:=Rd.bind_some h;have h7:=de h7;obtain⟨h8,h⟩:=bQ h;simp only[az]at h8;obtain⟨oW,hle⟩:=h8;have hle:=bN hle;split at h
     ·rename_i cs Be;obtain rfl:=aq h;obtain⟨m1,m2,m3⟩:=Nb (E:=E) (w:=w) (c:=c) Be;obtain⟨_,_,hu⟩:=zj sd;rw[tp]at hu;obtain⟨⟨t1,q1,eM,jR⟩,eI,fO⟩:=bI.obj n _ hg;obtain rfl:te=t1:=aq (h6.symm.trans q1);obtain⟨⟨t3,q3,DX,yl⟩,lL,_⟩:=bI.obj n2 _ P4;obtain rfl:t2=t3:=aq (h7.symm.trans q3);have jc:j+cs.length<=te.ks.length:=by rw[m2];exact hle
      have Wk:cs.map CV.kd=(te.ks.drop j).take cs.length:=by rw[m1,m2]
      have jw:i<xs.length:=by rw[<-eI.n];exact hi
      obtain⟨gH,vals,hb⟩:=eI.pos hi;have B3:=iQ jR;have oX:=sI jR Wk jc jw;have wO:=iQ oX;have same:∀i' j',eK (dP xs i j cs) i' j'->eK xs i' j':=λi' j' hx=>(B3 i' j').2 (by have:=(wO i' j').1 hx;rwa[g7]at this);have B_:∀y∈xs,y.length=(c.P n).sz:=λy hy=>by rw[eM,<-jR y hy];simp
      let w':=w.setRow (c.P n).blk (dq vals ((c.P n).off+i*(c.P n).sz+j) X.toList);have oa:∀b,b≠(c.P n).blk->w'.heap[b]? =w.heap[b]? :=λb hb=>setRow_other w _ b _ hb;have adG:∀i j,¬eK zs i j:=by rintro i j ⟨y,x,h1,h2,h3⟩;rw[fy oW (yl y (aD h1)) h2]at h3;cases h3
      have OC:(c.P n2).nil=ah->ea c n2 (.row e2 ae zs) (c.P n2).blk:=λhn=> .inl ⟨hn,rfl⟩;have Eh:ea c n (.row el ae xs) (c.P n).blk:= .inl ⟨gH,rfl⟩;have W5:(c.P n2).nil=ah->(c.P n2).blk≠(c.P n).blk:=λhn he=>fP (bI.sep n _ n2 _ _ hg P4 Eh (by rw[<-he];exact OC hn));let c':dJ:=⟨c.P,λm i' j'=>if m=n/\i'=i/\j'=j+q then c.P n2 else c.G m i' j',c.K⟩
      have Y_:c'.G n i (j+q)=c.P n2:=br ⟨rfl,rfl,rfl⟩;have Uz:∀i' j',¬(i'=i/\j'=j+q)->c'.G n i' j'=c.G n i' j':=λi' j' h=>bF (λe=>h ⟨e.2.1,e.2.2⟩);have hG3:∀m,m≠n->c'.G m=c.G m:=λm hm=>by funext i' j';exact bF (λe=>hm e.1)
      have NT:∀i' j',eK (dP xs i j cs) i' j'->(c'.G n i' j').nil=ah->(i'=i/\j'=j+q/\(c.P n2).nil=ah/\(c'.G n i' j').blk=(c.P n2).blk)\/(¬(i'=i/\j'=j+q)/\(c.G n i' j').nil=ah/\(c'.G n i' j').blk=(c.G n i' j').blk/\ea c n (.row el ae xs) (c.G n i' j').blk):=by
       intro i' j' hh hn;by_cases he:i'=i/\j'=j+q
       ·obtain⟨rfl,rfl⟩:=he;rw[Y_]at hn⊢;exact .inl ⟨rfl,rfl,hn,rfl⟩
       ·rw[Uz i' j' he]at hn⊢;exact .inr ⟨he,hn,rfl, .inr ⟨rfl,i',j',same i' j' hh,hn,rfl⟩⟩
      obtain⟨mJ,uX⟩:=gq.XK (R':=λi1 j1 u1 x1=>if ae=ae then XC E w' (c'.G n) i1 j1 u1 x1 else ch E w' c'.K u1 x1) eI hb B_ (i:=i) (j:=j) (cs:=cs) (vs:=X.toList) hi (by rw[eM];exact jc) (by rw[c8,mI.1,m2])
       (λk x hk=>by
        obtain⟨y,hy,hxy⟩:=m3 k x hk;obtain⟨u,hu1,WE⟩:=mI.2 k y hy;refine⟨u,by rw[bY];exact hu1, ?_⟩
        rw[br rfl];rcases hxy with ⟨hl,Td⟩|⟨rfl,rfl⟩
        ·exact qg hl (Td u WE)
        ·have qZ:k=q:=hu k n2 hy;subst qZ;have WE:u=jj (c.P n2):=WE;refine⟨by rw[Y_];exact WE,t2,h7,oW,by rw[Y_];exact DX,yl, ?_⟩
         rw[Y_];exact lL.frame (λhn=>oa _ (W5 hn)) (λi1 j1 y1 x1 u1 g1 g2 hr=>by rw[br rfl]at hr;exact qi hr (fy oW (yl y1 (aD g1)) g2)))
       (λi1 y1 j1 x1 u1 h1 h2 ab4 hr=>by
        rw[br rfl]at hr⊢;have yk:XC E w' (c.G n) i1 j1 u1 x1:=hr.frame (λhl hn=>oa _ ((fO rfl).out i1 j1 ⟨y1,x1,h1,h2,hl⟩ hn gH));have abT:¬(i1=i/\j1=j+q):=by
         rintro ⟨rfl,rfl⟩;have hq:q<cs.length:=by obtain⟨_,hq,_⟩:=zj sd;rw[tp]at hq;rw[m2];exact(aG.1 hq).1
         rcases ab4 with h|h
         ·exact h rfl
         ·exact h ⟨by omega,by omega⟩
        cases x1 with
        |l ee zz=>obtain⟨r1,r2⟩:=yk;unfold XC;rw[Uz i1 j1 abT];exact⟨r1,r2⟩
        |i=>exact yk
        |b=>exact yk
        |s=>exact yk)
      have hr:=exec vals hb (by rw[c8]at mJ;exact mJ);let σ1:=mK (mK σ (cf n) (.o (.row el ae (dP xs i j cs)))) (cf n2) (.o .dead);obtain⟨s1,s2,s3⟩:=oA σ1 o .un;have key:∀m,wr σ1 (dw o .un) (cf m)=if m=n2 then .o .dead else if m=n then .o (.row el ae (dP xs i j cs))else σ (cf m):=λm=>by rw[s3];show(mK (mK σ (cf n) (.o (.row el ae (dP xs i j cs)))) (cf n2) (.o .dead)) (cf m)=_;rw[mX,mX]
      have Wr:∀m,σ (cf m)≠ .ie->wr σ1 (dw o .un) (cf m)≠ .ie:=λm hm=>by rw[key];split;simp;split;simp;exact hm
      have hA:nM σ c c':=λm _=>⟨rfl,λhf=>hG3 m (λe=>by subst e;rw[hF]at hf;cases hf)⟩
      have hCh:∀m,m=n\/m=n2->∃ob,σ (cf m)= .o ob:=by rintro m (rfl|rfl);exact⟨_,hg⟩;exact⟨_,P4⟩
      have kB:∀m x,(m=n\/m=n2)->wr σ1 (dw o .un) (cf m)= .o x->(m=n2/\x= .dead)\/(m=n/\x= .row el ae (dP xs i j cs)):=by
       intro m x hm hx;rw[key]at hx;by_cases Na:m=n2
       ·rw[br Na]at hx;cases hx;exact .inl ⟨Na,rfl⟩
       ·rw[bF Na,br (hm.resolve_right Na)]at hx;cases hx;exact .inr ⟨hm.resolve_right Na,rfl⟩
      have hh:=bI.rV (σ':=wr σ1 (dw o .un)) (w':=w') (c':=c') (λm=>m=n\/m=n2) (λm hm=>by rw[key,bF (λe=>hm (.inr e)),bF (λe=>hm (.inl e))]) Wr hA (λm hm _=>hG3 m (λe=>hm (.inl e)))
       (λb _ ND=>oa b (λe=>ND ⟨n,_, .inl rfl,hg,by rw[e];exact Eh⟩)) (by simp[w',i9]) (λ_ h=>h) (λ_ h=> .inl h) (λb hb=>gF (bI.lt b hb) (by simp[w',i9]))
       (λm x hm hx=>by
        rcases kB m x hm hx with ⟨rfl,rfl⟩|⟨rfl,rfl⟩
        ·trivial
        ·refine⟨⟨te,q1,eM,oX⟩,uX,λ_=>⟨λi1 j1 hh hn _ he=> ?_,λi1 j1 i2 j2 h1 h2 n1 n2' he=> ?_⟩⟩
         ·rcases NT i1 j1 hh hn with ⟨_,_,g1,g2⟩|⟨_,g1,g2,g3⟩
          ·exact W5 g1 (g2.symm.trans he)
          ·exact(fO rfl).out i1 j1 (same i1 j1 hh) g1 gH (g2.symm.trans he)
         ·rcases NT i1 j1 h1 n1 with ⟨a1,a2,a3,a4⟩|⟨a1,a2,a3,a4⟩<;>rcases NT i2 j2 h2 n2' with ⟨b1,b2,b3,b4⟩|⟨b1,b2,b3,b4⟩
          ·exact⟨a1.trans b1.symm,a2.trans b2.symm⟩
          ·exfalso;exact fP (bI.sep m _ n2 _ _ hg P4 b4 (by rw[<-b3,<-he,a4];exact OC a3))
          ·exfalso;exact fP (bI.sep m _ n2 _ _ hg P4 a4 (by rw[<-a3,he,b4];exact OC b3))
          ·exact(fO rfl).one i1 j1 i2 j2 (same i1 j1 h1) (same i2 j2 h2) a2 b2 (a3.symm.trans (he.trans b3)))
       (λm x b hm hx hf=>by
        rcases kB m x hm hx with ⟨rfl,rfl⟩|⟨rfl,rfl⟩
        ·exact hf.elim
        ·have Wh:ig (λk=>k=m\/k=n2) σ c b:=by
          rcases hf with ⟨_,rfl⟩|⟨_,i1,j1,hh,hn,rfl⟩
          ·exact⟨m,_, .inl rfl,hg,Eh⟩
          ·rcases NT i1 j1 hh hn with ⟨_,_,g1,g2⟩|⟨_,g1,g2,g3⟩
           ·rw[g2];exact⟨n2,_, .inr rfl,P4,OC g1⟩
           ·rw[g2];exact⟨m,_, .inl rfl,hg,g3⟩
         exact⟨.inl Wh,bI.Cq Wh.own⟩)
       (λm x m' x' b hm sc hx mB hf sZ=>by
        rcases kB m x hm hx with ⟨rfl,rfl⟩|⟨rfl,rfl⟩
        ·exact hf.elim
        ·rcases kB m' x' sc mB with ⟨rfl,rfl⟩|⟨rfl,rfl⟩
         ·exact sZ.elim
         ·rfl)
       (λm bs hm hx=>by rcases kB m _ hm hx with ⟨_,h⟩|⟨_,h⟩<;>cases h) rfl rfl rfl
      intro K Q hK;refine xN hr (hK undef w' c' hh.1 ?_ hh.2 hA);refine cU.rV bI hh.2 hA Wr o undef (λk hk=>by rw[s1 k hk];show slot (mK (mK σ (cf n) (.o (.row el ae (dP xs i j cs)))) (cf n2) (.o .dead)) k=_;rw[gv,gv]) (λd ho=>⟨hd d ho, ?_, ?_⟩)
      ·rw[s2 d ho];trivial
      ·rw[s2 d ho];intro k hk;simp[bO]at hk
     ·simp at h
    ·simp at h
  ·simp at h
 ·simp at h
theorem KS(hE:dv P E)(bI:Ok E σ w c)(cU:dX E σ a w c)(hd:∀d,o.dst=ab d->d<a.tmps.size){t:au}{p x:cL}(ho:o.op= .store t p x)(h:(jz E nm o).val σ=ab e):e7 P E σ a w c o e.ws:=by
 simp only[jz,ho]at h;obtain⟨ti,h1,h⟩:=Rd.bind_some h;obtain⟨pv,h2,h⟩:=Rd.bind_some h;obtain⟨xv,h3,h⟩:=Rd.bind_some h;have h1:=de h1;obtain⟨ep,kp⟩:=gd cU h2;obtain⟨ex,kx⟩:=jH cU h3;cases xv with
 |v g ys=>
  obtain⟨h4,h⟩:=bQ h;have h4:=aJ h4;obtain⟨ws,h5,h⟩:=Rd.bind_some h;obtain rfl:=aq h;have mI:=m9.cells ex;have Be:(a.eval x).cells.size=ti.ks.length:=by rw[mI.1,h4]
  have ky:∀b∈ys,gp σ b:=λb hb n hn=>kx n (bg.2 ⟨b,hb,hn⟩);obtain⟨_,_,_,_,iP,_⟩:=hE.info t ti h1;have exec:∀{b of:au} {cur:cG aR},a.eval p= .pointer (ab (ad b of))->k8 w b cur->of+(a.eval x).cells.size<=cur.size->(execOp a.eval o).run P w= .ok .skip (w.setRow b (dq cur of (a.eval x).cells.toList)):=by intro b of cur hp hb hf;unfold execOp;rw[ho];refine OY ?_;rw[hp];exact CF w hE h1 Be hb hf mI.one
  have hkK:∀(b:au) (new:cG aR),rI σ c b->∀b',c.K b'->(w.setRow b new).heap[b']? =w.heap[b']? :=by intro b new hb b' hk;exact setRow_other w b b' new (λe=>by subst e;exact bI.Cq hb hk)
  have h5:(A2 E pv ys).val σ=ab ws\/∃n i j,pv= .rp n i j/\tO n=ae/\(A1 E n i j ys).val σ=ab ws:=by
   cases pv with
   |rp n i j=>
    unfold LM at h5;simp only at h5;cases hF:tO n with
    |true=>rw[hF,aw]at h5;exact .inr ⟨n,i,j,rfl,hF,h5⟩
    |false=>rw[hF,aC]at h5;exact .inl h5
   |_=>exact .inl h5
  rcases h5 with h5|⟨n,i,j,rfl,hF,h5⟩
  rotate_left
  ·obtain⟨Zj,Wz⟩:=ep;exact G0 bI cU hd hF Zj h5 mI (by rw[<-h4]at iP;exact iP) (λcur hb hf=>exec Wz hb hf)
  cases pv with
  |bp n j=>
   obtain⟨ob,hg,h5⟩:=Rd.bind_some h5;have hg:=cM hg;cases ob with
   |box xs=>
    obtain⟨h6,h5⟩:=bQ h5;have h6:=bN h6;obtain rfl:=aq h5;obtain⟨cur,hb,eM,PZ⟩:=bI.obj n _ hg;have q9:rI σ c (c.P n).blk:=⟨n,_,hg,rfl⟩
    have mJ:j+(a.eval x).cells.size<=cur.size:=by rw[mI.1,eM];exact h6
    have Wc:j+(a.eval x).cells.toList.length<=cur.size:=by rw[c8];exact mJ
    have wN:=hkK (c.P n).blk (dq cur j (a.eval x).cells.toList) q9;refine pk bI cU hd hg (ob':= .box (gb xs j ys)) ?_ (λb hb=>hb) (λzs hz b hb=> ?_) (s:= .un) trivial (λn hn=>by simp[bO]at hn) (λb hb Ib=>setRow_other w _ b _ (λe=>Ib e)) (by simp[i9]) rfl rfl rfl (.inr ⟨exec ep hb mJ,rfl⟩)
    ·have:=(eE.put (E:=E) (w:=w) (c:=c) ⟨eM,PZ⟩ mI h6)
     refine⟨_,hb.setRow (dL Wc),this.1,λq b hq=> ?_⟩
     obtain⟨u,hu,hub⟩:=this.2 q b hq;exact⟨u,hu,hub.frame wN (λ_ h=>h) (λ_ _=>⟨rfl,rfl⟩)⟩
    ·cases hz;rcases wW hb with hb|hb
     ·exact bI.kn n xs hg b hb
     ·exact ky b hb
   |_=>simp at h5
  |rp n i j=>
   obtain⟨ob,hg,h5⟩:=Rd.bind_some h5;have hg:=cM hg;cases ob with
   |row el uV xs=>
    obtain⟨te,h6,h5⟩:=Rd.bind_some h5;have h6:=de h6;obtain⟨h7,h5⟩:=bQ h5;obtain⟨⟨cs,w2⟩,h8,h5⟩:=Rd.bind_some h5;obtain rfl:=aq h5;obtain⟨m1,m2,_,m3⟩:=wB (E:=E) (w:=w) (c:=c) h7 h8;obtain⟨⟨t2,q1,eM,jR⟩,eI,fO⟩:=bI.obj n _ hg;obtain rfl:te=t2:=aq (h6.symm.trans q1);obtain⟨hi,Wz⟩:=ep;have hlk:cs.length=((te.ks.drop j).take ys.length).length:=by rw[<-m1];simp
    have jc:j+cs.length<=te.ks.length:=by
     rw[eA,im]at hlk;have:0<cs.length:=by rw[m2,h4];exact iP
     omega
    have Wk:cs.map CV.kd=(te.ks.drop j).take cs.length:=by rw[m1,m2]
    have jw:i<xs.length:=by rw[<-eI.n];exact hi
    have gH:(c.P n).nil=false:=by
     cases hn:(c.P n).nil with
     |false=>rfl
     |true=>have:=(eI.nil hn).1;subst this;simp at jw
    have q9:rI σ c (c.P n).blk:=⟨n,_,hg, .inl ⟨gH,rfl⟩⟩
    have wN:=λnew=>hkK (c.P n).blk new q9;have B3:=iQ jR;have oX:=sI jR Wk jc jw;have wO:=iQ oX;have same:∀i' j',eK (dP xs i j cs) i' j'->eK xs i' j':=λi' j' hx=>(B3 i' j').2 (by have:=(wO i' j').1 hx;rwa[g7]at this);obtain⟨_,vals,hb⟩:=eI.pos hi;have B_:∀y∈xs,y.length=(c.P n).sz:=λy hy=>by rw[eM,<-jR y hy];simp
    have abC:=wN (dq vals ((c.P n).off+i*(c.P n).sz+j) (a.eval x).cells.toList);have hw:∀b,c.K b->(w.setRow (c.P n).blk (dq vals ((c.P n).off+i*(c.P n).sz+j) (a.eval x).cells.toList)).heap[b]? =w.heap[b]? :=abC;generalize FI:w.setRow (c.P n).blk (dq vals ((c.P n).off+i*(c.P n).sz+j) (a.eval x).cells.toList)=w' at hw;have oa:∀b,b≠(c.P n).blk->w'.heap[b]? =w.heap[b]? :=λb hb=>by rw[<-FI];exact setRow_other w _ b _ hb
    obtain⟨mJ,uX⟩:=gq.put (R':=λi1 j1 u1 x1=>if uV=ae then XC E w' (c.G n) i1 j1 u1 x1 else ch E w' c.K u1 x1) eI hb B_ (i:=i) (j:=j) (cs:=cs) (vs:=(a.eval x).cells.toList) hi (by rw[eM];exact jc) (by rw[c8,mI.1,m2])
     (λq y hq=>by
      obtain⟨r1,r2,r3⟩:=m3 _ mI q y hq;refine⟨HH y,by rw[bY];exact r1, ?_⟩
      split
      ·exact qg r2 ⟨rfl,r3⟩
      ·exact iH r2 ⟨rfl,r3⟩)
     (λi1 y1 j1 x1 u1 h1 h2 hr=>by
      cases uV with
      |true=>rw[br rfl]at hr⊢;exact hr.frame (λhl hn=>oa _ ((fO rfl).out i1 j1 ⟨y1,x1,h1,h2,hl⟩ hn gH))
      |false=>rw[bF (by simp)]at hr⊢;exact hr.frame hw (λ_ h=>h))
    rw[FI]at uX;refine pk bI cU hd hg (ob':= .row el uV (dP xs i j cs)) ?_ ?_ (λzs hz=>by cases hz) (s:= .un) trivial (λn hn=>by simp[bO]at hn) (w':=w') (λb hb Ib=>oa b (λe=>Ib (.inl ⟨gH,e⟩))) (by rw[<-FI];simp[i9]) (by rw[<-FI];rfl) (by rw[<-FI];rfl) (by rw[<-FI];rfl) (.inr ⟨?_,rfl⟩)
    ·exact⟨⟨te,q1,eM,oX⟩,uX,λhx=>⟨λi1 j1 hh=>(fO hx).out i1 j1 (same i1 j1 hh),λi1 j1 i2 j2 h1 h2=>(fO hx).one i1 j1 i2 j2 (same i1 j1 h1) (same i2 j2 h2)⟩⟩
    ·rintro b (hb|⟨hx,i1,j1,hh,hn⟩)
     ·exact .inl hb
     ·exact .inr ⟨hx,i1,j1,same i1 j1 hh,hn⟩
    ·rw[<-FI];refine exec Wz hb ?_;rw[c8]at mJ;exact mJ
   |_=>simp at h5
  |ip n i j i2 j2=>
   obtain⟨ob,hg,h5⟩:=Rd.bind_some h5;have hg:=cM hg;cases ob with
   |row el uV xs=>
    cases uV with
    |false=>simp at h5
    |true=>
    obtain⟨te,h6,h5⟩:=Rd.bind_some h5;have h6:=de h6;split at h5
    ·rename_i e2 wP;obtain⟨t2,h7,h5⟩:=Rd.bind_some h5;have h7:=de h7;obtain⟨h8,h5⟩:=bQ h5;obtain⟨⟨cs,w2⟩,h9,h5⟩:=Rd.bind_some h5;obtain rfl:=aq h5;have Wy:plain ((t2.ks.drop j2).take ys.length)=true:=aZ.2 (λk hk=>aZ.1 h8 k (iM (iN hk)));obtain⟨m1,m2,_,m3⟩:=wB (E:=E) (w:=w) (c:=c) Wy h9;obtain⟨⟨hi,B1,Wz⟩,_⟩:=ep;obtain⟨⟨t1,q1,eM,jR⟩,eI,fO⟩:=bI.obj n _ hg;obtain rfl:te=t1:=aq (h6.symm.trans q1);obtain⟨zs,y,t3,r1,r2,r3,r4,r5,r6,r7,_⟩:=vB bI hg h6 wP hi;obtain rfl:t2=t3:=aq (h7.symm.trans r3);rw[dY r1 r2];simp only[ia];have hlk:cs.length=((t2.ks.drop j2).take ys.length).length:=by rw[<-m1];simp
     have jc:j2+cs.length<=t2.ks.length:=by
      rw[eA,im]at hlk;have:0<cs.length:=by rw[m2,h4];exact iP
      omega
     have Wk:cs.map CV.kd=(t2.ks.drop j2).take cs.length:=by rw[m1,m2]
     have abH:i2<zs.length:=by rw[<-r7.n];exact B1
     have jw:i<xs.length:=(aG.1 r1).1;obtain⟨wR,vals,hb⟩:=r7.pos B1;obtain⟨gH,pv,hpb⟩:=eI.pos hi;have yi:eK xs i j:=⟨y,_,r1,r2,rfl⟩
     have q9:rI σ c (c.G n i j).blk:=⟨n,_,hg, .inr ⟨rfl,i,j,yi,wR,rfl⟩⟩
     have hw:=hkK (c.G n i j).blk (dq vals ((c.G n i j).off+i2*(c.G n i j).sz+j2) (a.eval x).cells.toList) q9;have DZ:∀y∈zs,y.length=(c.G n i j).sz:=λy hy=>by rw[r5,<-r6 y hy];simp
     obtain⟨mJ,uX⟩:=gq.put (R':=λ_ _ u1 x1=>Sc u1 x1) r7 hb DZ (i:=i2) (j:=j2) (cs:=cs) (vs:=(a.eval x).cells.toList) B1 (by rw[r5];exact jc) (by rw[c8,mI.1,m2])
      (λq y hq=>⟨HH y,by rw[bY];exact(m3 _ mI q y hq).1,rfl,(m3 _ mI q y hq).2.2⟩) (λ_ _ _ _ _ _ _ hr=>hr)
     generalize FI:w.setRow (c.G n i j).blk (dq vals ((c.G n i j).off+i2*(c.G n i j).sz+j2) (a.eval x).cells.toList)=w' at hw uX;have oa:∀b,b≠(c.G n i j).blk->w'.heap[b]? =w.heap[b]? :=λb hb=>by rw[<-FI];exact setRow_other w _ b _ hb
     have hjk:j<te.ks.length:=(aG.1 wP).1;have SX:[CV.l e2 (dP zs i2 j2 cs)].map CV.kd=(te.ks.drop j).take [CV.l e2 (dP zs i2 j2 cs)].length:=by rw[bM,List.take_one,List.head?_drop,wP];rfl
     have oX:=sI (i:=i) (j:=j) (cs:=[CV.l e2 (dP zs i2 j2 cs)]) jR SX (by simp;omega) jw;have B3:=iQ jR;have wO:=iQ oX;have same:∀i' j',eK (dP xs i j [CV.l e2 (dP zs i2 j2 cs)]) i' j'->eK xs i' j':=λi' j' hx=>(B3 i' j').2 (by have:=(wO i' j').1 hx;rwa[g7]at this);have Ta:(c.P n).blk≠(c.G n i j).blk:=λe=>(fO rfl).out i j yi wR gH e.symm;have lL:gq w' (c.P n) (dP xs i j [CV.l e2 (dP zs i2 j2 cs)]) (λi1 j1 u1 x1=>if ae=ae then XC E w' (c.G n) i1 j1 u1 x1 else ch E w' c.K u1 x1):=by
      obtain⟨vs,k1,k2,k3,k4,k5⟩:=eI.mem gH;refine⟨by rw[g7];exact eI.n,λhn=>(by rw[gH]at hn;cases hn),λ_=>⟨vs,k1.frame (oa _ Ta),k2,k3,k4,λi1 y1 j1 x1 g1 g2=> ?_⟩⟩
      rw[sH r1]at g1;simp only[if_true]at k5⊢;by_cases B2:i1=i
      ·subst B2;rw[br rfl]at g1;cases g1;have B_:y.length=te.ks.length:=by rw[<-jR y (aD r1)];simp
       rw[mr (by simp;omega)]at g2;by_cases hq:j<=j1/\j1<j+[CV.l e2 (dP zs i2 j2 cs)].length
       ·rw[br hq]at g2;have:j1=j:=by simp at hq;omega
        subst this;simp at g2;subst g2;obtain⟨u,hu,hr⟩:=k5 _ _ _ _ r1 r2;refine⟨u,hu,hr.1,t2,r3,r4,r5,sI r6 Wk jc abH,uX⟩
       ·rw[bF hq]at g2;obtain⟨u,hu,hr⟩:=k5 _ _ _ _ r1 g2;refine⟨u,hu,hr.frame (λhl hn=>oa _ (λe=> ?_))⟩
        have:=((fO rfl).one _ _ _ _ ⟨y,x1,r1,g2,hl⟩ yi hn wR e).2;simp at hq;omega
      ·rw[bF B2]at g1;obtain⟨u,hu,hr⟩:=k5 _ _ _ _ g1 g2;exact⟨u,hu,hr.frame (λhl hn=>oa _ (λe=>B2 ((fO rfl).one _ _ _ _ ⟨y1,x1,g1,g2,hl⟩ yi hn wR e).1))⟩
     refine pk bI cU hd hg (ob':= .row el ae (dP xs i j [CV.l e2 (dP zs i2 j2 cs)])) ?_ ?_ (λzs hz=>by cases hz) (s:= .un) trivial (λn hn=>by simp[bO]at hn) (w':=w') (λb hb Ib=>oa b (λe=>Ib (.inr ⟨rfl,i,j,yi,wR,e⟩))) (by rw[<-FI];simp[i9]) (by rw[<-FI];rfl) (by rw[<-FI];rfl) (by rw[<-FI];rfl) (.inr ⟨?_,rfl⟩)
     ·exact⟨⟨te,q1,eM,oX⟩,lL,λhx=>⟨λi1 j1 hh=>(fO hx).out i1 j1 (same i1 j1 hh),λi1 j1 i2 j2 h1 h2=>(fO hx).one i1 j1 i2 j2 (same i1 j1 h1) (same i2 j2 h2)⟩⟩
     ·rintro b (hb|⟨hx,i1,j1,hh,hn⟩)
      ·exact .inl hb
      ·exact .inr ⟨hx,i1,j1,same i1 j1 hh,hn⟩
     ·rw[<-FI];refine exec Wz hb ?_;rw[c8]at mJ;exact mJ
    ·simp at h5
   |_=>simp at h5
  |_=>simp[A2]at h5
 |gM=>simp at h
 |un=>simp at h
end
end Go.FG

namespace Go.FG
theorem Hu{ks:ak Ck}(h:plain ks=ae):D9 ks=true:=by refine aZ.2 (λk hk=> ?_);have:=aZ.1 h k hk;cases k<;>first|rfl|exact this
theorem pE{xs:aY}{ks:ak Ck}(h:∀y∈xs,y.map CV.kd=ks)(hp:plain ks=ae){i j:au}:¬eK xs i j:=by intro hx;obtain⟨_,e,hk⟩:=(iQ h i j).1 hx;have:=aZ.1 hp _ (aD hk);cases this
theorem BI{xs z:aY}{lo hi:au}(h1:lo<=hi)(h2:hi<=xs.length)(hz:z.length=hi-lo)(i:au):(xs.take lo++z++xs.drop hi)[i]? =if lo<=i/\i<hi then z[i-lo]? else xs[i]? :=by
 by_cases a:i<lo
 ·rw[bF (by omega),bR,cS (by simp;omega),dj,br a]
 ·by_cases b:i<hi
  ·rw[br ⟨by omega,b⟩,bR,cm (by simp;omega),cS (by simp;omega)];congr 1;simp;omega
  ·rw[bF (by omega),bR,cm (by simp;omega),cm (by simp;omega),c7];congr 1;simp;omega
section
variable {P:b9} {E:eh} {σ:St} {a:Act} {w:bf} {c:dJ} {o:dU} {nm:au} {e:o7}
theorem HE{t ty el:au}{z:aR}{inf:Da}(hu:P.underlying t=ab (.slice el))(hi:P.info? el=ab inf)(hz:inf.zero=ab z){b of n cp:au}{cur:cG aR}(hn:0<n)(hb:k8 w b cur)(hf:of+n*z.cells.size<=cur.size)(h1:∀u∈z.cells.toList,u.oneCell'=ae):
  (lP #[t] ty #[.slice (ab (ad b of)) n cp]).run P w= .ok (.tuple #[]) (w.setRow b (dq cur of (madeCells z.cells (n*z.cells.size)).toList)):=by
 have DW:=kM (P:=P) w (o:=of) (vs:=(madeCells z.cells (n*z.cells.size)).toList) hb (by simpa [size_madeCells]using hf) (λv hv=>by
  unfold madeCells at hv;simp only[uK,b7]at hv;obtain⟨q,hq,rfl⟩:=hv;have hq:q<n*z.cells.size:=by simpa using hq
  have hp:0<z.cells.size:=by rcases xR z.cells.size with h|h;(rw[h]at hq;simp at hq);exact h
  have:q%z.cells.size<z.cells.size:=xS _ hp;rw[getElem!_pos z.cells _ this];exact h1 _ (by simp))
 have hz':(eb z.cells n)=madeCells z.cells (n*z.cells.size):=rfl;cases n with
 |zero=>omega
 |succ n=>simp[lP,run_underlying hu,zeroValue,typeInfo,hi,hz,hz',DW]
theorem xG{t ty el:au}(hu:P.underlying t=ab (.slice el)){A:ar Addr}{cp:au}:(lP #[t] ty #[.slice A 0 cp]).run P w= .ok (.tuple #[]) w:=by cases A<;>simp[lP,run_underlying hu]
theorem KO(hE:dv P E)(bI:Ok E σ w c)(cU:dX E σ a w c)(hd:∀d,o.dst=ab d->d<a.tmps.size){cl:Call}(ho:o.op= .call cl)(hb:cl.callee= .builtin .clear)(h:(jz E nm o).val σ=ab e):e7 P E σ a w c o e.ws:=by
 simp only[jz,ho,hb]at h;split at h
 ·rename_i x hx;split at h
  ·rename_i t ht;obtain⟨k,hk,h⟩:=Rd.bind_some h;cases k with
   |l el=>
    obtain⟨v,h1,h⟩:=Rd.bind_some h;obtain⟨ws,h2,h⟩:=Rd.bind_some h;obtain rfl:=aq h;obtain⟨ev,kv⟩:=gd cU h1;have hu:=iD hE hk;have hx:=kH hx;have ht:=kH ht;have exec:∀{w'},(lP #[t] o.type #[a.eval x]).run P w= .ok (.tuple #[]) w'->(execOp a.eval o).run P w= .ok (.value (.tuple #[])) w':=by intro w' hr;obtain⟨cs,Be⟩:=jY (P:=P) (a:=a) (w:=w) ho hb;rw[Be,hx,ht];simp only[builtin,x_,dW,v7];exact fY hr
    have sv:gu E w c (.gM []) (.tuple #[]):=⟨#[],rfl,rfl,λj agg xs hj=>by simp at hj⟩
    have af:∀A cp,a.eval x= .slice A 0 cp->(execOp a.eval o).run P w= .ok (.value (.tuple #[])) w:=λA cp hv=>exec (by rw[hv];exact xG hu);have main:∀(n:au) (ex:aL) (xs:aY) (lo hi:au) (te:TI),σ (cf n)= .o (.row el ex xs)->E.ty el=ab te->plain te.ks=ae->rS (c.P n) lo hi (a.eval x)->e7 P E σ a w c o ([(cf n, .o (.row el ex (xs.take lo++aM te.ks (hi-lo)++xs.drop hi)))]++dw o (.gM [])):=by
     intro n ex xs lo hi te hg DY oW hv;obtain⟨⟨t2,q1,eM,jR⟩,eI,fO⟩:=bI.obj n _ hg;obtain rfl:te=t2:=aq (DY.symm.trans q1);obtain⟨v1,v2,v3,v4⟩:=hv;have hle:hi<=xs.length:=by rw[<-eI.n];exact v2
     have wS:=Hu oW;have DZ:(aM te.ks (hi-lo)).length=hi-lo:=by simp[aM]
     by_cases hz:hi-lo=0
     ·have WB:xs.take lo++aM te.ks (hi-lo)++xs.drop hi=xs:=by
       have:hi=lo:=by omega
       subst this;simp[aM]
      rw[WB];have hr:(execOp a.eval o).run P w= .ok (.value (.tuple #[])) w:=by
       cases hq:(c.P n).nil with
       |true=>exact af _ _ (v3 hq)
       |false=>
        rcases v4 hq with ⟨_,h⟩|⟨_,oo,_,h⟩
        ·rw[hz]at h;exact af _ _ h
        ·exact af _ _ h
      exact pk bI cU hd hg (bI.obj n _ hg) (λb hb=>hb) (λzs hz=>by cases hz) sv (λn hn=>by simp[bO]at hn) (λb _ _=>rfl) (cD _) rfl rfl rfl (.inl hr)
     ·have gH:(c.P n).nil=false:=by
       cases hq:(c.P n).nil with
       |false=>rfl
       |true=>have:=(eI.nil hq).1;subst this;simp at hle;omega
      obtain⟨vals,k1,k2,k3,k4,k5⟩:=eI.mem gH;rcases v4 gH with ⟨u1,hv⟩|⟨u1,oo,_,hv⟩
      ·obtain⟨inf,nc,aja,_,_,C1⟩:=hE.info el te DY;obtain⟨z,yo,Zp,_⟩:=C1 wS;have Ii:z.cells.size=te.ks.length:=by rw[Zp];simp
       have hbd:(c.P n).off+lo*(c.P n).sz+(hi-lo)*z.cells.size<=vals.size:=by rw[Ii,<-eM,ju,<-cB];have:(lo+(hi-lo))*(c.P n).sz<=(c.P n).cap*(c.P n).sz:=bD _ (by omega);omega
       have hr:=HE (P:=P) (w:=w) (ty:=o.type) (of:=(c.P n).off+lo*(c.P n).sz) (n:=hi-lo) (cp:=(c.P n).cap-lo) hu nc yo (by omega) k1 hbd (by rw[Zp];intro u oK;obtain⟨k,qB,rfl⟩:=b7.1 (by simpa using oK:u∈te.ks.map fL);cases k<;>rfl);rw[<-hv]at hr;have q9:rI σ c (c.P n).blk:=⟨n,_,hg, .inl ⟨gH,rfl⟩⟩
       rw[Ii,Zp]at hr;have Wp:(madeCells (te.ks.map fL).toArray ((hi-lo)*te.ks.length)).toList.length=(hi-lo)*te.ks.length:=by simp[size_madeCells]
       have SL:(c.P n).off+lo*(c.P n).sz+(madeCells (te.ks.map fL).toArray ((hi-lo)*te.ks.length)).toList.length<=vals.size:=by rw[Wp,<-Ii];exact hbd
       have y_:=k1.setRow (dL SL);have We:=eL SL;generalize tN:dq vals ((c.P n).off+lo*(c.P n).sz) (madeCells (te.ks.map fL).toArray ((hi-lo)*te.ks.length)).toList=new at hr y_ We;have abU:new.size=vals.size:=by rw[<-tN];exact dL SL
       have oa:∀b,b≠(c.P n).blk->(w.setRow (c.P n).blk new).heap[b]? =w.heap[b]? :=λb hb=>setRow_other w _ b _ hb;have hw:∀b,c.K b->(w.setRow (c.P n).blk new).heap[b]? =w.heap[b]? :=λb hk=>oa b (λe=>by subst e;exact bI.Cq q9 hk);have oX:∀y∈xs.take lo++aM te.ks (hi-lo)++xs.drop hi,y.map CV.kd=te.ks:=by
        intro y hy;rw[aQ,aQ]at hy;rcases hy with (hy|hy)|hy
        ·exact jR y (iN hy)
        ·exact sS wS _ y hy
        ·exact jR y (iM hy)
       refine pk bI cU hd hg (ob':= .row el ex (xs.take lo++aM te.ks (hi-lo)++xs.drop hi)) ?_ ?_ (λzs hz=>by cases hz) (w':=w.setRow (c.P n).blk new) ⟨#[],rfl,rfl,λj agg xs hj=>by simp at hj⟩ (λn hn=>by simp[bO]at hn) (λb _ Ib=>oa b (λe=>Ib (.inl ⟨gH,e⟩))) (by simp[i9]) rfl rfl rfl (.inl (exec hr))
       ·refine⟨⟨te,DY,eM,oX⟩,⟨?_,λhn=>(by rw[gH]at hn;cases hn),λ_=>⟨new,y_,k2,k3,by rw[abU];exact k4,λi y j x jw hj=> ?_⟩⟩,λ_=>⟨λi j hh=>bS hh (pE oX oW),λi j i' j' hh=>bS hh (pE oX oW)⟩⟩
        ·rw[eI.n];simp[aM];omega
        ·have hl:=fy oW (oX y (aD jw)) hj;have jc:j<te.ks.length:=by rw[<-oX y (aD jw),bC];exact(aG.1 hj).1
         have toR:∀u,Sc u x->(if ex=ae then XC E (w.setRow (c.P n).blk new) (c.G n) i j u x else ch E (w.setRow (c.P n).blk new) c.K u x):=by
          intro u hu;split
          ·exact qg hl hu
          ·exact iH hl hu
         rw[BI v1 hle DZ]at jw;rw[We,Wp];by_cases hq:lo<=i/\i<hi
         ·rw[br hq]at jw;obtain⟨Wg,k,hk1,rfl⟩:=qj jw hj;have h2:(i-lo+1)*te.ks.length<=(hi-lo)*te.ks.length:=bD _ Wg;have h3:i*te.ks.length=lo*te.ks.length+(i-lo)*te.ks.length:=by rw[<-cB];congr 1;omega
          rw[cB]at h2;rw[eM,br (by omega)];refine⟨fL k, ?_,toR _ ?_⟩
          ·have:=jl (n:=hi-lo) Wg hk1;rw[bY,<-this];congr 1;omega
          ·have NG:=aZ.1 oW k (aD hk1);cases k<;>first|exact⟨rfl,trivial⟩|exact⟨rfl,bT _⟩|cases NG
         ·rw[bF hq]at jw;obtain⟨u,oK,yk⟩:=k5 i y j x jw hj;refine⟨u, ?_,toR u ?_⟩
          ·rw[bF ?_];exact oK;rw[eM];by_cases wQ:i<lo
           ·have:(i+1)*te.ks.length<=lo*te.ks.length:=bD _ wQ;rw[cB]at this;omega
           ·have:hi*te.ks.length<=i*te.ks.length:=bD _ (by omega);have h3:hi*te.ks.length=lo*te.ks.length+(hi-lo)*te.ks.length:=by rw[<-cB];congr 1;omega
            omega
          ·split at yk
           ·exact qi yk hl
           ·exact mi yk hl
       ·rintro b (hb|⟨_,i,j,hh,_⟩)
        ·exact .inl hb
        ·exact bS hh (pE oX oW)
      ·omega
    unfold JC at h2;cases v with
    |nl=>obtain rfl:=aq h2;exact eT bI cU hd sv (λn hn=>by simp[bO]at hn) (af _ _ ev)
    |own n=>
     obtain⟨ob,hg,h2⟩:=Rd.bind_some h2;have hg:=cM hg;cases ob with
     |row e' ex xs=>obtain⟨te,q1,h2⟩:=Rd.bind_some h2;obtain⟨q2,h2⟩:=bQ h2;obtain rfl:=aq h2;simp only[az]at q2;have:=aJ q2.1;subst this;have ev:a.eval x=jj (c.P n):=ev;have:=main n ex xs 0 xs.length te hg (de q1) q2.2 (by rw[ev];exact ru bI hg);simpa using this
     |_=>simp at h2
    |vw n lo hi=>
     obtain⟨ob,hg,h2⟩:=Rd.bind_some h2;have hg:=cM hg;cases ob with
     |row e' ex xs=>obtain⟨te,q1,h2⟩:=Rd.bind_some h2;obtain⟨q2,h2⟩:=bQ h2;obtain rfl:=aq h2;simp only[az]at q2;have:=aJ q2.1;subst this;exact main n ex xs lo hi te hg (de q1) q2.2 ev
     |_=>simp at h2
    |_=>simp at h2
   |_=>simp at h
  ·simp at h
 ·simp at h
end
end Go.FG

namespace Go.FG
def ir(D:ak (au×Obj)):ak (au×dF):=D.map λd=>(cf d.1, .o d.2)
def qm(D:ak (au×Obj))(m:au):Prop:=∃x,(m,x)∈D
theorem OX:∀(D:ak (au×Obj)) (σ:St),(∀m,(wr σ (ir D) (cf m)=σ (cf m)/\¬qm D m)\/∃x,(m,x)∈D/\wr σ (ir D) (cf m)= .o x)/\∀m,slot (wr σ (ir D)) m=slot σ m:=by
 intro D;induction D with
 |nil=>intro σ;exact⟨λm=> .inl ⟨rfl,λ⟨x,hx⟩=>by cases hx⟩,λm=>rfl⟩
 |cons d D ih=>
  intro σ;obtain⟨n,x⟩:=d;obtain⟨h1,h2⟩:=ih (mK σ (cf n) (.o x));refine⟨λm=> ?_,λm=> ?_⟩
  ·show(wr (mK σ (cf n) (.o x)) (ir D) (cf m)=_/\_)\/∃y,_/\wr (mK σ (cf n) (.o x)) (ir D) (cf m)=_;rcases h1 m with ⟨q1,q2⟩|⟨y,q1,q2⟩
   ·rw[mX]at q1;by_cases hm:m=n
    ·subst hm;exact .inr ⟨x,by simp,by rw[q1,br rfl]⟩
    ·refine .inl ⟨by rw[q1,bF hm],λ⟨y,hy⟩=> ?_⟩;rcases bP.1 hy with hy|hy
     ·cases hy;exact hm rfl
     ·exact q2 ⟨y,hy⟩
   ·exact .inr ⟨y,b_ _ q1,q2⟩
  ·show slot (wr (mK σ (cf n) (.o x)) (ir D)) m=_;rw[h2,gv]
section
variable {P:b9} {E:eh} {σ:St} {a:Act} {w:bf} {c:dJ} {o:dU} {nm:au} {e:o7}
theorem BG(bI:Ok E σ w c)(cU:dX E σ a w c){o:dU}(hd:∀d,o.dst=ab d->d<a.tmps.size){D:ak (au×Obj)}{s:SV}{v:aR}{w':bf}{c':dJ}
  (hA:gO σ c c')
  (j4:∀n x,(n,x)∈D->mM E w' c' n x)
  (mR:∀n x b,(n,x)∈D->ea c' n x b->(ig (qm D) σ c b\/w.heap.size<=b)/\¬c'.K b)
  (Ka:∀n x n' x' b,(n,x)∈D->(n',x')∈D->ea c' n x b->ea c' n' x' b->n=n')
  (B5:∀n xs,(n,Obj.box xs)∈D->∀a∈xs,∀m∈bh a,σ (cf m)≠ .ie\/qm D m)
  (hK:∀b,c.K b->c'.K b) (Mk:∀b,c'.K b->c.K b\/ig (qm D) σ c b\/w.heap.size<=b) (Ar:∀b,c'.K b->b<w'.heap.size)
  (hW:∀b,b<w.heap.size->¬ig (qm D) σ c b->w'.heap[b]? =w.heap[b]?) (eM:w.heap.size<=w'.heap.size) (G9:w'.os=w.os) (NJ:w'.tape=w.tape) (NF:w'.output=w.output)
  (uZ:gu E w' c' s v) (yj:∀n∈bO s,σ (cf n)≠ .ie\/qm D n):
  Ok E (wr σ (ir D++dw o s)) w' c'/\dX E (wr σ (ir D++dw o s)) (a.put o.dst v) w' c'/\lE σ c w (wr σ (ir D++dw o s)) c' w':=by
 rw[HM];obtain⟨d1,d2⟩:=OX D σ;let σ1:=wr σ (ir D);obtain⟨s1,s2,s3⟩:=oA σ1 o s;have key:∀m,(wr σ1 (dw o s) (cf m)=σ (cf m)/\¬qm D m)\/∃x,(m,x)∈D/\wr σ1 (dw o s) (cf m)= .o x:=λm=>by rw[s3];exact d1 m
 have fP:∀m,(σ (cf m)≠ .ie\/qm D m)->wr σ1 (dw o s) (cf m)≠ .ie:=by
  intro m hm;rcases key m with ⟨h1,h2⟩|⟨x,_,h2⟩
  ·rw[h1];exact hm.resolve_right h2
  ·rw[h2];simp
 have get:∀m x,qm D m->wr σ1 (dw o s) (cf m)= .o x->(m,x)∈D:=by
  intro m x hm hx;rcases key m with ⟨_,h2⟩|⟨y,h1,h2⟩
  ·exact bS hm h2
  ·rw[h2]at hx;cases hx;exact h1
 have hh:=bI.change (σ':=wr σ1 (dw o s)) (w':=w') (c':=c') (qm D) (λm hm=>(key m).elim (λh=>h.1) (λ⟨x,h1,_⟩=>bS ⟨x,h1⟩ hm)) (λm hm=>fP m (.inl hm)) hA hW eM hK Mk Ar
  (λm x hm ho=>j4 m x (get m x hm ho)) (λm x b hm ho hf=>mR m x b (get m x hm ho) hf) (λm x m' x' b hm sc ho qC hf sZ=>Ka m x m' x' b (get m x hm ho) (get m' x' sc qC) hf sZ)
  (λm xs hm ho y hy n iC=>fP n (B5 m xs (get m _ hm ho) y hy n iC)) G9 NJ NF
 refine⟨hh.1, ?_,hh.2⟩
 refine cU.change bI hh.2 hA (λm hm=>fP m (.inl hm)) o v (λn iC=>by rw[s1 n iC];exact d2 n) (λd ho=>⟨hd d ho, ?_, ?_⟩)
 ·rw[s2 d ho];exact uZ
 ·rw[s2 d ho];intro n iC;exact fP n (yj n iC)
theorem DN(bI:Ok E σ w c)(cU:dX E σ a w c){o:dU}(hd:∀d,o.dst=ab d->d<a.tmps.size){D:ak (au×Obj)}{s:SV}{v:aR}{w':bf}{c':dJ}
  (hA:gO σ c c')
  (j4:∀n x,(n,x)∈D->mM E w' c' n x)
  (mR:∀n x b,(n,x)∈D->ea c' n x b->(ig (qm D) σ c b\/w.heap.size<=b)/\¬c'.K b)
  (Ka:∀n x n' x' b,(n,x)∈D->(n',x')∈D->ea c' n x b->ea c' n' x' b->n=n')
  (B5:∀n xs,(n,Obj.box xs)∈D->∀a∈xs,∀m∈bh a,σ (cf m)≠ .ie\/qm D m)
  (hK:∀b,c.K b->c'.K b) (Mk:∀b,c'.K b->c.K b\/ig (qm D) σ c b\/w.heap.size<=b) (Ar:∀b,c'.K b->b<w'.heap.size)
  (hW:∀b,b<w.heap.size->¬ig (qm D) σ c b->w'.heap[b]? =w.heap[b]?) (eM:w.heap.size<=w'.heap.size) (G9:w'.os=w.os) (NJ:w'.tape=w.tape) (NF:w'.output=w.output)
  (uZ:gu E w' c' s v) (yj:∀n∈bO s,σ (cf n)≠ .ie\/qm D n)
  (hr:(execOp a.eval o).run P w= .ok (.value v) w'):e7 P E σ a w c o (ir D++dw o s):=by intro K Q hQ;obtain⟨h1,h2,h3⟩:=BG bI cU hd hA j4 mR Ka B5 hK Mk Ar hW eM G9 NJ NF uZ yj;exact sQ hr (hQ v w' c' h1 h2 h3 hA.w)
def vP(σ:St)(c:dJ)(m:ar au)(u:aR):CV->Prop
 | .l e ys=>(m=af/\ys=[]/\u= .slice af 0 0)\/∃nm,m=ab nm/\u=jj (c.P nm)/\σ (cf nm)= .o (.row e ae ys)
 |x=>Sc u x
def yQ(L:ak au):ak (au×Obj):=L.map λn=>(n, .dead)
theorem wy(L:ak au):lB L=ir (yQ L):=by unfold lB ir yQ;rw[jC];rfl
theorem Nc{k:Ck}{x:AV}{cv:CV}{ws:ak (au×dF)}(h:(BL ae k x).val σ=ab (cv,ws)):
  cv.kd=k/\∃m:ar au,ws=lB m.toList/\(∀nm,m=ab nm->∃ob,σ (cf nm)= .o ob)/\∀u,dz E w c x u->vP σ c m u cv:=by
 have pl:plain [k]=ae->cv.kd=k/\∃m:ar au,ws=lB m.toList/\(∀nm,m=ab nm->∃ob,σ (cf nm)= .o ob)/\∀u,dz E w c x u->vP σ c m u cv:=by
  intro hp;have Qq:cv.kd=k/\ws=[]:=by
   cases k<;>cases x<;>simp[BL,plain]at h hp<;>first
    |(obtain⟨rfl,rfl⟩:=h;exact⟨rfl,rfl⟩)
    |(split at h<;>simp at h;rename_i hk;subst hk;obtain⟨rfl,rfl⟩:=h;exact⟨rfl,rfl⟩)
  refine⟨Qq.1,af,Qq.2,λnm h=>(by cases h),λu hu=> ?_⟩
  obtain⟨_,h2,h3,_⟩:=tJ hp h hu;cases cv<;>first|exact h2|simp[p_]at h3
 cases k with
 |i=>exact pl rfl
 |b=>exact pl rfl
 |s=>exact pl rfl
 |o=>cases x<;>simp[BL]at h
 |l e=>
  cases x with
  |nl=>obtain⟨rfl,rfl⟩:=bn (aq h);exact⟨rfl,af,rfl,λnm h=>(by cases h),λu hu=> .inl ⟨rfl,rfl,hu⟩⟩
  |sh e' xs=>simp[BL]at h
  |own n=>
   obtain⟨ob,hg,h⟩:=Rd.bind_some h;have hg:=cM hg;cases ob with
   |row e' pY xs=>obtain⟨h1,h⟩:=bQ h;obtain⟨rfl,rfl⟩:=bn (aq h);simp only[az]at h1;have:=aJ h1.1;subst this;obtain rfl:=h1.2;exact⟨rfl,ab n,rfl,λnm h=>(by cases h;exact⟨_,hg⟩),λu hu=> .inr ⟨n,rfl,hu,hg⟩⟩
   |ej=>simp at h
   |_=>simp at h
  |_=>simp[BL]at h
theorem JG:∀{ks:ak Ck} {xs:ak AV} {cs:ak CV} {ws:ak (au×dF)} (h:(tK ae ks xs).val σ=ab (cs,ws)),cs.map CV.kd=ks/\xs.length=ks.length/\∃(L:ak au) (M:au->ar au),ws=lB L/\
  (∀nm∈L,∃ob,σ (cf nm)= .o ob)/\(∀j nm,M j=ab nm->nm∈L)/\(L.Nodup->∀i j nm,M i=ab nm->M j=ab nm->i=j)/\
  ∀(vals:cG aR),eE E w c vals xs->∀(q:au) (x:CV),cs[q]? =ab x->∃u:aR,vals[q]? =ab u/\vP σ c (M q) u x:=by
 intro ks;induction ks with
 |nil=>
  intro xs cs ws h;cases xs with
  |nil=>obtain⟨rfl,rfl⟩:=bn (aq h);exact⟨rfl,rfl,[],λ_=>af,rfl,λnm h=>(by cases h),λj nm h=>(by cases h),λ_ i j nm h=>(by cases h),λ_ _ q x hq=>by simp at hq⟩
  |cons=>simp[tK]at h
 |cons k ks ih=>
  intro xs cs ws h;cases xs with
  |nil=>simp[tK]at h
  |cons x xs=>
   obtain⟨⟨cv,w1⟩,h1,h⟩:=Rd.bind_some h;obtain⟨⟨cr,w2⟩,h2,h⟩:=Rd.bind_some h;obtain⟨rfl,rfl⟩:=bn (aq h);obtain⟨e1,m,rfl,e2,e3⟩:=Nc (E:=E) (w:=w) (c:=c) h1;obtain⟨i1,i2,L,M,rfl,i4,i5,i6,i7⟩:=ih h2;refine⟨by simp[e1,i1],by simp[i2],m.toList++L,λj=>match j with|0=>m|j+1=>M j,by simp[lB], ?_, ?_, ?_, ?_⟩
   ·intro nm P8;rcases aQ.1 P8 with h|h
    ·exact e2 nm (by simpa using h)
    ·exact i4 nm h
   ·intro j nm hj;cases j with
    |zero=>exact bw _ (by simpa using hj)
    |succ j=>exact bm _ (i5 j nm hj)
   ·intro hnd i j nm hi hj;obtain⟨n1,n2,n3⟩:=dr.1 hnd;cases i with
    |zero=>
     cases j with
     |zero=>rfl
     |succ j=>exact bS rfl (n3 nm (by simpa using hi) nm (i5 j nm hj))
    |succ i=>
     cases j with
     |zero=>exact bS rfl (n3 nm (by simpa using hj) nm (i5 i nm hi))
     |succ j=>rw[i6 n2 i j nm hi hj]
   ·intro vals hv q y hq;cases q with
    |zero=>cases hq;obtain⟨u,hu,ha⟩:=hv.2 0 x rfl;exact⟨u,hu,e3 u ha⟩
    |succ q=>
     have FN:eE E w c (vals.extract 1 vals.size) xs:=by
      refine⟨by simp;have:=hv.1;simp at this;omega,λj b hj=> ?_⟩
      obtain⟨u,hu,hb⟩:=hv.2 (j+1) b hj;refine⟨u, ?_,hb⟩
      have:=(c_.1 hu).1;rw[dn,br (by omega),gf];exact hu
     obtain⟨u,r1,r2⟩:=i7 _ FN q y hq;refine⟨u, ?_,r2⟩
     rw[dn]at r1;split at r1
     ·rw[gf];exact r1
     ·cases r1
theorem DC{k:Ck}{x:AV}{cv:CV}{ws:ak (au×dF)}(bI:Ok E σ w c)(h:(BL ah k x).val σ=ab (cv,ws)):cv.kd=k/\ws=[]/\∀u,dz E w c x u->ch E w c.K u cv:=by
 have pl:plain [k]=ae->cv.kd=k/\ws=[]/\∀u,dz E w c x u->ch E w c.K u cv:=by
  intro hp;have Qq:cv.kd=k/\ws=[]:=by
   cases k<;>cases x<;>simp[BL,plain]at h hp<;>first
    |(obtain⟨rfl,rfl⟩:=h;exact⟨rfl,rfl⟩)
    |(split at h<;>simp at h;rename_i hk;subst hk;obtain⟨rfl,rfl⟩:=h;exact⟨rfl,rfl⟩)
  refine⟨Qq.1,Qq.2,λu hu=> ?_⟩
  obtain⟨_,h2,h3,_⟩:=tJ hp h hu;exact iH h3 h2
 cases k with
 |i=>exact pl rfl
 |b=>exact pl rfl
 |s=>exact pl rfl
 |o=>cases x<;>simp[BL]at h
 |l e=>
  cases x with
  |nl=>obtain⟨rfl,rfl⟩:=bn (aq h);exact⟨rfl,rfl,λu hu=>by rw[show u=_ from hu];exact .nl _ _ _⟩
  |sh e' xs=>obtain⟨h1,h⟩:=bQ h;obtain⟨rfl,rfl⟩:=bn (aq h);simp only[az]at h1;have:=aJ h1.1;subst this;exact⟨rfl,rfl,λu hu=>hu⟩
  |own n=>
   obtain⟨ob,hg,h⟩:=Rd.bind_some h;have hg:=cM hg;cases ob with
   |row e' pY xs=>obtain⟨h1,h⟩:=bQ h;simp at h
   |ej e' xs=>
    obtain⟨h1,h⟩:=bQ h;obtain⟨rfl,rfl⟩:=bn (aq h);simp only[az]at h1;have:=aJ h1.1;subst this;refine⟨rfl,rfl,λu hu=> ?_⟩
    have hu:u=jj (c.P n):=hu;rw[hu];exact(bI.obj n _ hg).1
   |_=>simp at h
  |_=>simp[BL]at h
theorem BM(bI:Ok E σ w c):∀{ks:ak Ck} {xs:ak AV} {cs:ak CV} {ws:ak (au×dF)} (h:(tK ah ks xs).val σ=ab (cs,ws)),cs.map CV.kd=ks/\xs.length=ks.length/\ws=[]/\
  ∀(vals:cG aR),eE E w c vals xs->∀(q:au) (x:CV),cs[q]? =ab x->∃u:aR,vals[q]? =ab u/\ch E w c.K u x:=by
 intro ks;induction ks with
 |nil=>
  intro xs cs ws h;cases xs with
  |nil=>obtain⟨rfl,rfl⟩:=bn (aq h);exact⟨rfl,rfl,rfl,λ_ _ q x hq=>by simp at hq⟩
  |cons=>simp[tK]at h
 |cons k ks ih=>
  intro xs cs ws h;cases xs with
  |nil=>simp[tK]at h
  |cons x xs=>
   obtain⟨⟨cv,w1⟩,h1,h⟩:=Rd.bind_some h;obtain⟨⟨cr,w2⟩,h2,h⟩:=Rd.bind_some h;obtain⟨rfl,rfl⟩:=bn (aq h);obtain⟨e1,e2,e3⟩:=DC bI h1;obtain⟨i1,i2,i3,i7⟩:=ih h2;refine⟨by simp[e1,i1],by simp[i2],by rw[e2,i3];rfl,λvals hv q y hq=> ?_⟩
   cases q with
   |zero=>cases hq;obtain⟨u,hu,ha⟩:=hv.2 0 x rfl;exact⟨u,hu,e3 u ha⟩
   |succ q=>
    have FN:eE E w c (vals.extract 1 vals.size) xs:=by
     refine⟨by simp;have:=hv.1;simp at this;omega,λj b hj=> ?_⟩
     obtain⟨u,hu,hb⟩:=hv.2 (j+1) b hj;refine⟨u, ?_,hb⟩
     have:=(c_.1 hu).1;rw[dn,br (by omega),gf];exact hu
    obtain⟨u,r1,r2⟩:=i7 _ FN q y hq;refine⟨u, ?_,r2⟩
    rw[dn]at r1;split at r1
    ·rw[gf];exact r1
    ·cases r1
end
end Go.FG

namespace Go.FG
section
variable {P:b9} {E:eh} {σ:St} {a:Act} {w:bf} {c:dJ} {o:dU} {nm:au} {e:o7}
structure Inv (E:eh) (σ:St) (w:bf) (c:dJ) (ex:aL) (ks:ak Ck) (vals:cG aR) (z:aY) (N:au->au->ar au) (S:ak au):Prop where
 size:vals.size=z.length*ks.length
 sh:∀y∈z,y.map CV.kd=ks
 inS:∀i j nm,N i j=ab nm->nm∈S
 inj:∀i j i' j' nm,N i j=ab nm->N i' j'=ab nm->i=i'/\j=j'
 cell:∀(i:au) (y:ak CV) (j:au) (x:CV),z[i]? =ab y->y[j]? =ab x->∃u:aR,vals[i*ks.length+j]? =ab u/\(if ex=ae then vP σ c (N i j) u x else ch E w c.K u x)
theorem Inv.set{ex:aL}{ks:ak Ck}{vals:cG aR}{z:aY}{N:au->au->ar au}{S:ak au}(h:Inv E σ w c ex ks vals z N S){i0:au}(hi:i0<z.length){cs:ak CV}{vs:cG aR}(hk:cs.map CV.kd=ks)(Kd:vs.size=ks.length)
  {M:au->ar au} {L:ak au} (hM:∀j nm,M j=ab nm->nm∈L) (hMi:∀i j nm,M i=ab nm->M j=ab nm->i=j) (hd:∀nm∈L,nm∉S)
  (hc:∀(q:au) (x:CV),cs[q]? =ab x->∃u:aR,vs[q]? =ab u/\(if ex=ae then vP σ c (M q) u x else ch E w c.K u x)):
  Inv E σ w c ex ks (dq vals (i0*ks.length) vs.toList) (z.set i0 cs) (λi j=>if i=i0 then M j else N i j) (S++L):=by
 have h1:(i0+1)*ks.length<=z.length*ks.length:=bD _ hi;rw[cB]at h1;have hb:i0*ks.length+vs.toList.length<=vals.size:=by rw[h.size,show vs.toList.length=ks.length from Kd];omega
 refine⟨by rw[dL hb,cF];exact h.size, ?_, ?_, ?_, ?_⟩
 ·intro y hy;rcases gG hy with hy|hy
  ·exact h.sh y hy
  ·rw[hy];exact hk
 ·intro i j nm hn;replace hn:(if i=i0 then M j else N i j)=ab nm:=hn;split at hn
  ·exact bm _ (hM j nm hn)
  ·exact bw _ (h.inS i j nm hn)
 ·intro i j i' j' nm hn iC;replace hn:(if i=i0 then M j else N i j)=ab nm:=hn;replace iC:(if i'=i0 then M j' else N i' j')=ab nm:=iC;split at hn
  ·rename_i e1;split at iC
   ·rename_i e2;exact⟨e1.trans e2.symm,hMi j j' nm hn iC⟩
   ·exact bS (h.inS i' j' nm iC) (hd nm (hM j nm hn))
  ·split at iC
   ·exact bS (h.inS i j nm hn) (hd nm (hM j' nm iC))
   ·exact h.inj i j i' j' nm hn iC
 ·intro i y j x hy hx;rw[HU]at hy;rw[eL hb,show vs.toList.length=ks.length from Kd];by_cases B2:i0=i
  ·subst B2;rw[br rfl,br hi]at hy;cases hy;have hj:j<ks.length:=by rw[<-hk,bC];exact(aG.1 hx).1
   obtain⟨u,hu,hr⟩:=hc j x hx;refine⟨u, ?_,by simpa using hr⟩
   rw[br (by omega),bY,<-hu];congr 1;omega
  ·rw[bF B2]at hy;obtain⟨u,hu,hr⟩:=h.cell i y j x hy hx;have hj:j<ks.length:=by rw[<-h.sh y (aD hy),bC];exact(aG.1 hx).1
   refine⟨u, ?_,by rw[show(if i=i0 then M j else N i j)=N i j from bF (λe=>B2 e.symm)];exact hr⟩
   rw[bF ?_];exact hu;rcases HX B2 with ix|hgt
   ·have:(i0+1)*ks.length<=i*ks.length:=bD _ ix;rw[cB]at this;omega
   ·have:(i+1)*ks.length<=i0*ks.length:=bD _ hgt;rw[cB]at this;omega
theorem GQ(bI:Ok E σ w c)(cU:dX E σ a w c){ex:aL}{ks:ak Ck}(iP:0<ks.length):∀(ps:ak (au×cL)) (z z':aY) (ws:ak (au×dF)),(DB ex ks ps z).val σ=ab (z',ws)->
  z'.length=z.length/\∃L,ws=lB L/\(∀nm∈L,∃ob,σ (cf nm)= .o ob)/\∀vals N S,(S++L).Nodup->Inv E σ w c ex ks vals z N S->
   ∃gh N',mA (λi=>ab (i*ks.length,ks.length)) vals (ps.map λ(i,x)=>(i,a.eval x))=ab gh/\Inv E σ w c ex ks gh z' N' (S++L):=by
 intro ps;induction ps with
 |nil=>intro z z' ws h;obtain⟨rfl,rfl⟩:=bn (aq h);exact⟨rfl,[],rfl,λnm h=>(by cases h),λvals N S _ hi=>⟨vals,N,rfl,by rw[da];exact hi⟩⟩
 |cons p r ih=>
  obtain⟨i0,x⟩:=p;intro z z' ws h;obtain⟨v,h1,h⟩:=Rd.bind_some h;obtain⟨G_,Zg⟩:=jH cU h1;cases v with
  |v g ys=>
   obtain⟨h2,h⟩:=bQ h;have h2:=bN h2;obtain⟨⟨cs,w1⟩,h3,h⟩:=Rd.bind_some h;obtain⟨⟨z1,w2⟩,h4,h⟩:=Rd.bind_some h;obtain⟨rfl,rfl⟩:=bn (aq h);have mI:=m9.cells G_
   have BL:cs.map CV.kd=ks/\ys.length=ks.length/\∃(L:ak au) (M:au->ar au),w1=lB L/\(∀nm∈L,∃ob,σ (cf nm)= .o ob)/\(∀j nm,M j=ab nm->nm∈L)/\(L.Nodup->∀i j nm,M i=ab nm->M j=ab nm->i=j)/\
     ∀(q:au) (x:CV),cs[q]? =ab x->∃u:aR,(a.eval ‹cL›).cells[q]? =ab u/\(if ex=ae then vP σ c (M q) u x else ch E w c.K u x):=by
    cases ex with
    |true=>obtain⟨q1,q2,L,M,q3,q4,q5,q6,q7⟩:=JG (E:=E) (w:=w) (c:=c) h3;exact⟨q1,q2,L,M,q3,q4,q5,q6,λq x hq=>by simpa using q7 _ mI q x hq⟩
    |false=>obtain⟨q1,q2,q3,q4⟩:=BM bI h3;exact⟨q1,q2,[],λ_=>af,q3,λnm h=>(by cases h),λj nm h=>(by cases h),λ_ i j nm h=>(by cases h),λq x hq=>by simpa using q4 _ mI q x hq⟩
   obtain⟨q1,q2,L,M,rfl,q4,q5,q6,q7⟩:=BL;obtain⟨i1,L2,rfl,i3,i4⟩:=ih _ _ _ h4;rw[cF]at i1;refine⟨i1,L++L2,by simp[lB],λnm hn=>(aQ.1 hn).elim (q4 nm) (i3 nm),λvals N S hnd hinv=> ?_⟩
   have Wq:((S++L)++L2).Nodup:=by rw[bR];exact hnd
   obtain⟨n1,n2,n3⟩:=dr.1 Wq;obtain⟨m1,m2,m3⟩:=dr.1 n1;have Kd:(a.eval x).cells.size=ks.length:=by rw[mI.1,q2]
   have Wi:=hinv.set (i0:=i0) (by omega) q1 Kd q5 (q6 m2) (λnm hn hs=>m3 nm hs nm hn rfl) q7;obtain⟨gh,N',f1,f2⟩:=i4 _ _ _ Wq Wi;refine⟨gh,N', ?_,by rw[<-bR];exact f2⟩
   have h1:(i0+1)*ks.length<=z.length*ks.length:=bD _ h2;rw[cB,<-hinv.size]at h1;simp only[dW,mA];rw[bF (by simp[Kd];omega)];have:=yV (off:=i0*ks.length) (vs:=(a.eval x).cells) (cells:=vals) (by omega);rw[<-f1];exact o6 (λq=>mA (λi=>ab (i*ks.length,ks.length)) q _) this
  |gM=>simp at h
  |un=>simp at h
theorem xF{t el n:au}{inf:Da}{z:aR}{ks:ak Ck}{ps:cG (au×aR)}{cells:cG aR}(hu:P.underlying t=ab (.slice el))(hi:P.info? el=ab inf)(eM:inf.size=ks.length)(hz:inf.zero=ab z)(UL:z.cells=(ks.map fL).toArray)
  (Y6:n*ks.length<=16777216) (hf:mA (λi=>ab (i*ks.length,ks.length)) (madeCells (ks.map fL).toArray (n*ks.length)) ps.toList=ab cells):
  (um t n ps).run P w= .ok (.slice (ab (ad w.heap.size 0)) n n) (w.alloc (.cells cells el)):=by
 have abj:¬(n*ks.length>2^24):=by omega
 by_cases h0:n*ks.length=0
 ·have e0:(Rq (n*ks.length)).map (λi=>(#[]:cG aR)[i%(#[]:cG aR).size]!)=madeCells (ks.map fL).toArray (n*ks.length):=by rw[h0];simp[madeCells,Array.range_zero']
  simp only[um,bJ,run_underlying hu,ba,sizeOf,typeInfo,program,kj,hi,eM,bV,h0,if_true,kc];rw[h0]at e0 hf;rw[e0,hf];simp only[newRow,newObj,bJ,kj,ba,bV];rfl
 ·have e0:(Rq (n*ks.length)).map (λi=>z.cells[i%z.cells.size]!)=madeCells (ks.map fL).toArray (n*ks.length):=by rw[UL];rfl
  simp only[um,bJ,run_underlying hu,ba,sizeOf,typeInfo,program,kj,hi,eM,abj,if_false,bV,h0,zeroValue,hz,kc];rw[e0,hf];simp only[newRow,newObj,bJ,kj,ba,bV];rfl
theorem nD:∀{l:ak au},pA l=ae->l.Nodup
 |[],_=> .nil
 |n::r,h=>by
  simp only[pA,az,dt]at h;refine iz.2 ⟨λhm=> ?_,nD h.2⟩;have:jO n r=true:=by
   have:=h.1;clear h;induction r with
   |nil=>cases hm
   |cons m r ih=>
    rcases bP.1 hm with rfl|hm
    ·simp[jO]
    ·simp only[jO,je]at this⊢;rw[ih hm this.2];simp
  rw[this]at h;cases h.1
theorem oi{α β:Type}{f:α->β}:∀{l:ak α},(l.map f).Nodup->l.Nodup
 |[],_=> .nil
 |x::l,h=>by
  rw[dW,iz]at h;exact iz.2 ⟨λhm=>h.1 (b7.2 ⟨x,hm,rfl⟩),oi h.2⟩
theorem Np{ks:ak Ck}(hf:flat E ks=ae){e:au}(hm:Ck.l e∈ks):∃t,E.ty e=ab t/\plain t.ks=true:=by
 have h:=aZ.1 hf _ hm;replace h:(match E.ty e with|some ti=>plain ti.ks|none=>ah)=true:=h;cases ht:E.ty e with
 |none=>rw[ht]at h;cases h
 |some t=>rw[ht]at h;exact⟨t,rfl,h⟩
theorem HB(bI:Ok E σ w c){n e:au}{ex:aL}{xs:aY}(hg:σ (cf n)= .o (.row e ex xs)){t:TI}(ht:E.ty e=ab t)(hp:plain t.ks=ae):
  (c.P n).sz=t.ks.length/\(∀y∈xs,y.map CV.kd=t.ks)/\gq w (c.P n) xs (λ_ _ u x=>Sc u x):=by
 obtain⟨⟨t2,q1,q2,q3⟩,q4,_⟩:=bI.obj n _ hg;obtain rfl:t=t2:=aq (ht.symm.trans q1);refine⟨q2,q3,q4.frame (λ_=>rfl) (λi j y x u hi hj hr=> ?_)⟩
 have hl:=fy hp (q3 y (aD hi)) hj;split at hr
 ·exact qi hr hl
 ·exact mi hr hl
theorem Jz(bI:Ok E σ w c){ks:ak Ck}(hf:flat E ks=ae){m:ar au}{G:au->au->Pl}{i j:au}(hG:G i j=match m with|some n=>c.P n|none=>D7 E ks i j){u:aR}{x:CV}(hx:ks[j]? =ab x.kd){w':bf}(hw:∀b,b<w.heap.size->(∃n,m=ab n/\b=(c.P n).blk)->w'.heap[b]? =w.heap[b]?)(h:vP σ c m u x):XC E w' G i j u x:=by
 cases x with
 |l e ys=>
  obtain⟨t,ht,hp⟩:=Np hf (aD hx);rcases h with ⟨rfl,rfl,rfl⟩|⟨n,rfl,rfl,hg⟩
  ·refine⟨by rw[hG];rfl,t,ht,hp, ?_,λy hy=>(by cases hy),⟨by rw[hG];rfl,λ_=>⟨rfl,by rw[hG];rfl⟩,λhn=>by rw[hG]at hn;cases hn⟩⟩
   rw[hG];show(match ks[j]? with|some (.l e)=>(match E.ty e with|some t=>t.ks.length|none=>0)|_=>0)=_;rw[hx];simp only[CV.kd,ht]
  ·obtain⟨q1,q2,q3⟩:=HB bI hg ht hp;refine⟨by rw[hG],t,ht,hp,by rw[hG];exact q1,q2, ?_⟩
   rw[hG];refine q3.frame (λhn=>hw _ (rI.lt bI ⟨n,_,hg, .inl ⟨hn,rfl⟩⟩) ⟨n,rfl,rfl⟩) (λ_ _ _ _ _ _ _ h=>h)
 |i=>exact h
 |b=>exact h
 |s=>exact h
theorem yq(hE:dv P E)(bI:Ok E σ w c)(cU:dX E σ a w c)(hd:∀d,o.dst=ab d->d<a.tmps.size){t n:au}{ps:cG (au×cL)}(ho:o.op= .buildSlice t n ps)(h:(jz E nm o).val σ=ab e)(hc:e.cond=ae):e7 P E σ a w c o e.ws:=by
 simp only[jz,ho]at h;obtain⟨ti,h1,h⟩:=Rd.bind_some h;have h1:=de h1;split at h
 ·rename_i el p8 yj;obtain⟨te,h2,h⟩:=Rd.bind_some h;have h2:=de h2;obtain⟨wS,h⟩:=bQ h;obtain⟨ex0,_,h⟩:=Rd.bind_some h;obtain⟨⟨xs,ws⟩,h3,h⟩:=Rd.bind_some h;obtain⟨u,h4,h⟩:=Rd.bind_some h;obtain⟨hf,ix⟩:=iB h4;obtain rfl:=aq h;simp only[az]at hc;obtain⟨Y6,hnd⟩:=hc;have Y6:=bN Y6;have hu:=me hE h1 p8 yj;obtain⟨inf,hi,eM,_,iP,hz⟩:=hE.info el te h2;obtain⟨z,C1,yo,_⟩:=hz wS;have Mn:(ex0&&flat E te.ks)=ae->flat E te.ks=true:=λh=>by simp only[az]at h;exact h.2
  generalize (ex0&&flat E te.ks)=ex at h3 Mn⊢;obtain⟨hlen,L,rfl,hL,J_⟩:=GQ (c:=c) bI cU iP ps.toList _ _ _ h3;have hnd:L.Nodup:=by have:=nD hnd;unfold lB at this;rw[jC]at this;exact oi this
  obtain⟨vals,N,Wa,hinv⟩:=J_ (madeCells (te.ks.map fL).toArray (n*te.ks.length)) (λ_ _=>af) [] (by simpa using hnd)
   ⟨by rw[size_madeCells];simp[aM],sS wS n,λi j nm h=>(by cases h),λi j i' j' nm h=>(by cases h),λi y j x hy hx=>by
    obtain⟨fO,k,hk,rfl⟩:=qj hy hx;refine⟨fL k,jl fO hk, ?_⟩
    have Zf:=aZ.1 wS k (aD hk);split
    ·cases k with
     |l e=>exact .inl ⟨rfl,rfl,rfl⟩
     |o=>cases Zf
     |s=>exact⟨rfl,bT _⟩
     |_=>exact⟨rfl,trivial⟩
    ·exact EJ Zf⟩
  rw[fU]at hinv;have hr:=xF (P:=P) (w:=w) (n:=n) (ps:=ps.map λ(i,x)=>(i,a.eval x)) hu hi eM C1 yo Y6 (by rw[uK];exact Wa);have DZ:xs.length=n:=by rw[hlen];simp[aM]
  let g:au->au->Pl:=λi j=>match N i j with|some m=>c.P m|none=>D7 E te.ks i j
  let c':dJ:=⟨λm=>if m=nm then⟨ah,w.heap.size,0,n,n,te.ks.length⟩else c.P m,λm=>if m=nm then g else c.G m,c.K⟩
  have hP:c'.P nm=⟨ah,w.heap.size,0,n,n,te.ks.length⟩:=br rfl;have hG:c'.G nm=g:=br rfl;have hA:gO σ c c':=λm hm=>by
   have:m≠nm:=by rintro rfl;rcases hm with h|h;exact h hf;omega
   exact⟨bF this,bF this⟩
  have gN:∀i j,(g i j).nil=ah->∃m ob,N i j=ab m/\g i j=c.P m/\m∈L/\σ (cf m)= .o ob:=by
   intro i j hn;cases hm:N i j with
   |none=>simp only[g,hm]at hn;cases hn
   |some m=>obtain⟨ob,j4⟩:=hL m (hinv.inS i j m hm);exact⟨m,ob,rfl,by simp only[g,hm],hinv.inS i j m hm,j4⟩
  have inn:∀i j,ex=ae->eK xs i j->(g i j).nil=ah->∃m el2 ys,N i j=ab m/\g i j=c.P m/\m∈L/\σ (cf m)= .o (.row el2 ae ys)/\(c.P m).nil=false:=by
   rintro i j hex ⟨y,x,hy,hx,hl⟩ hn;obtain⟨m,ob,q1,q2,q3,q4⟩:=gN i j hn;obtain⟨u,_,hr⟩:=hinv.cell i y j x hy hx;rw[br hex,q1]at hr;cases x with
   |l e2 ys=>
    rcases hr with ⟨h,_⟩|⟨m',h,_,hg⟩
    ·cases h
    ·cases h;exact⟨m,e2,ys,q1,q2,q3,hg,by rw[<-q2];exact hn⟩
   |i=>simp[p_]at hl
   |b=>simp[p_]at hl
   |s=>simp[p_]at hl
  have Ke:∀b,b<w.heap.size->(w.alloc (.cells vals el)).heap[b]? =w.heap[b]? :=λb hb=>heap_alloc_old w _ b hb;have mem:∀m x,(m,x)∈yQ L++[(nm,Obj.row el ex xs)]->(m∈L/\x= .dead)\/(m=nm/\x= .row el ex xs):=by
   intro m x hm;rcases aQ.1 hm with hm|hm
   ·unfold yQ at hm;obtain⟨q,hq,h⟩:=b7.1 hm;cases h;exact .inl ⟨hq,rfl⟩
   ·rw[aP]at hm;cases hm;exact .inr ⟨rfl,rfl⟩
  have hws:lB L++(cf nm,dF.o (.row el ex xs))::dw o (.v ah [.own nm])=ir (yQ L++[(nm,Obj.row el ex xs)])++dw o (.v ah [.own nm]):=by rw[wy];unfold ir;simp
  show e7 P E σ a w c o (lB L++(cf nm,dF.o (.row el ex xs))::dw o (.v ah [.own nm]));rw[hws];refine DN bI cU hd (c':=c') (w':=w.alloc (.cells vals el)) (v:= .slice (ab (ad w.heap.size 0)) n n) hA ?_ ?_ ?_ ?_ (λ_ h=>h) (λ_ h=> .inl h) (λb hb=>gF (bI.lt b hb) (by simp)) (λb hb _=>Ke b hb) (by simp) rfl rfl rfl ?_ ?_ ?_
  ·intro m x hm;rcases mem m x hm with ⟨_,rfl⟩|⟨rfl,rfl⟩
   ·trivial
   ·refine⟨⟨te,h2,by rw[hP],hinv.sh⟩, ?_,λhex=> ?_⟩
    ·rw[hP,hG];refine⟨DZ.symm,λhn=>(by cases hn),λ_=>⟨vals,k8.alloc w _ el,cD _, ?_, ?_,λi y j x hy hx=> ?_⟩⟩
     ·show n<=2^63-1;have:n*1<=n*te.ks.length:=Nat.mul_le_mul_left _ iP;omega
     ·rw[hinv.size,DZ];simp
     ·obtain⟨u,oK,yk⟩:=hinv.cell i y j x hy hx;refine⟨u,by simpa using oK, ?_⟩
      split at yk
      ·rename_i hex;rw[br hex];refine Jz bI (Mn hex) rfl ?_ (λb hb _=>Ke b hb) yk;rw[<-hinv.sh y (aD hy),bc,hx];rfl
      ·rename_i hex;rw[bF hex];exact yk.frame (λb hb=>Ke b (bI.lt b hb)) (λ_ h=>h)
    ·rw[hP,hG];refine⟨λi j hh hn _=> ?_,λi j i' j' hh uY hn iC hbk=> ?_⟩
     ·obtain⟨m',e2,ys,_,q2,_,q4,q5⟩:=inn i j hex hh hn;have:(c.P m').blk<w.heap.size:=rI.lt bI ⟨m',_,q4, .inl ⟨q5,rfl⟩⟩;rw[q2];show(c.P m').blk≠w.heap.size;omega
     ·obtain⟨m1,e1,y1,p1,p2,_,p4,p5⟩:=inn i j hex hh hn;obtain⟨m2,e2,y2,r1,r2,_,r4,r5⟩:=inn i' j' hex uY iC;rw[p2,r2]at hbk;have:=bI.sep m1 _ m2 _ _ p4 r4 (.inl ⟨p5,rfl⟩) (.inl ⟨r5,hbk⟩);subst this;exact hinv.inj i j i' j' m1 p1 r1
  ·intro m x b hm mR;rcases mem m x hm with ⟨_,rfl⟩|⟨rfl,rfl⟩
   ·exact mR.elim
   ·rcases mR with ⟨_,rfl⟩|⟨hex,i,j,hh,hn,rfl⟩
    ·rw[hP];exact⟨.inr (cD _),λhk=>by have:=bI.lt _ hk;exact bS this (ca _)⟩
    ·rw[hG]at hn⊢;obtain⟨m',e2,ys,_,q2,q3,q4,q5⟩:=inn i j hex hh hn;rw[q2];refine⟨.inl ⟨m',_,⟨.dead,bw _ (b7.2 ⟨m',q3,rfl⟩)⟩,q4, .inl ⟨q5,rfl⟩⟩,bI.kk m' _ _ q4 (.inl ⟨q5,rfl⟩)⟩
  ·intro m x m' x' b hm sc mR JZ;rcases mem m x hm with ⟨_,rfl⟩|⟨rfl,rfl⟩
   ·exact mR.elim
   ·rcases mem m' x' sc with ⟨_,rfl⟩|⟨rfl,rfl⟩
    ·exact JZ.elim
    ·rfl
  ·intro m zs hm;rcases mem m _ hm with ⟨_,h⟩|⟨_,h⟩<;>cases h
  ·show _=jj (c'.P nm);rw[hP];rfl
  ·intro m hm;have:m=nm:=by simpa [bO,bh]using hm
   subst this;exact .inr ⟨_,bm _ (aP.2 rfl)⟩
  ·unfold execOp;rw[ho];exact fY hr
 ·simp at h
end
end Go.FG

namespace Go.FG
section
variable {P:b9}
def jv(elem:TypeId)(size:au)(base:ar Addr)(sLen sCap:au)(s x:aR)(aM:aL)(n:au)(Bz:Sem (cG aR)):Sem aR:=
 if sLen+n<=sCap then do
  let new<-Bz
  if let ab a:=base then storeCells (a.add (sLen*size)) new.toList
  pure (.slice base (sLen+n) sCap)
 else do
  if((sLen+n:au):ax)>aj.max/\(aM\/(<-typeInfo elem).bytes=0)then runtimePanic (.error "growslice: len out of range")
  if Ba (sLen+n) sCap*(<-typeInfo elem).bytes>2^48 then(if aM then runtimePanic (.error "growslice: len out of range")else do
   if !(<-Builtin.mayShare size sLen n base x)then mark .noRoom
   unsupported (.resourceLimit "append: a slice or a string whose bytes no memory bears"))
  let D6<-choose (.appendCap (sLen+n) sCap elem)
  askRoom (D6*(<-typeInfo elem).bytes)
  let old<-dS size sLen s
  let new<-Bz
  let rest:=eb (<-zeroValue elem).cells (D6-(sLen+n))
  pure (.slice (ab (<-newRow elem (old++new++rest))) (sLen+n) D6)
theorem ua{w:bf}{t u ty el:au}{inf:Da}(hu:P.underlying t=ab (.slice el))(hi:P.info? el=ab inf)(hd:(∃e',P.underlying u=ab (.slice e'))\/P.underlying u=ab .string)
  {base:ar Addr} {sLen sCap m:au} {x:aR} (hl:(mz x).run P w= .ok m w):
  (fA #[t,u] ty #[.slice base sLen sCap,x]).run P w=(jv el inf.size base sLen sCap (.slice base sLen sCap) x ah m (dS inf.size m x)).run P w:=by
 have hs:(sizeOf el).run P w= .ok inf.size w:=by simp[sizeOf,typeInfo,hi]
 rcases hd with ⟨e',hd⟩|hd<;>
  (simp only[fA,fm,oQ,cZ,bJ,run_underlying hu,run_underlying hd,ba,hs,bV,hl,cJ,if_false,bX,if_true,false_or,kc]
   unfold jv
   simp only[kc,bJ,cJ,if_false,false_or,bV]
   try rfl)
theorem xD{w:bf}{t u ty el:au}{inf:Da}(hu:P.underlying t=ab (.slice el))(hi:P.info? el=ab inf){k:ki}(hd:P.underlying u=ab (.int k))
  {base:ar Addr} {sLen sCap m:au} {x:aR} {k':ki} (hx:x= .int k' (m:ax)) (h1:m<=9223372036854775807) (h2:m*inf.bytes<=140737488355328):
  (fA #[t,u] ty #[.slice base sLen sCap,x]).run P w=(jv el inf.size base sLen sCap (.slice base sLen sCap) x ae m (if m*inf.size=0 then pure #[]else do pure (eb (<-zeroValue el).cells m))).run P w:=by
 have hs:(sizeOf el).run P w= .ok inf.size w:=by simp[sizeOf,typeInfo,hi]
 have ht:∀W,(typeInfo el).run P W= .ok inf W:=λW=>by simp[typeInfo,hi]
 have hw:aj.wrap (m:ax)=m:=by rw[mZ];omega
 have c1:¬((m:ax)<0):=by omega
 have c2:¬((m:ax)*(inf.bytes:ax)>2^48):=by
  have a2:((m*inf.bytes:au):ax)<=140737488355328:=by generalize m*inf.bytes=q at h2;omega
  rw[MG]at a2;generalize (m:ax)*(inf.bytes:ax)=q at a2;have:(2:ax)^48=281474976710656:=by decide
  omega
 subst hx;have ha:(asInt (.int k' (m:ax))).run P w= .ok (m:ax) w:=by simp[asInt,asIntOf]
 simp only[fA,fm,oQ,cZ,bJ,run_underlying hu,run_underlying hd,ba,hs,ht,ha,hw,c1,c2,bV,if_false,bz,cJ,if_true,kc,gY];unfold jv;simp only[kc,bJ,if_true,true_or,and_true,bV,ht,ba];try rfl
theorem yv{w w':bf}{el size sLen sCap m:au}{a:Addr}{s x:aR}{zs:aL}{app:Sem (cG aR)}{news:ak aR}(ha:app.run P w= .ok news.toArray w)(h:sLen+m<=sCap)(DW:(storeCells (a.add (sLen*size)) news).run P w= .ok () w'):
  (jv el size (ab a) sLen sCap s x zs m app).run P w= .ok (.slice (ab a) (sLen+m) sCap) w':=by unfold jv;rw[br h];simp only[bJ,ha,ba,DW,bV]
theorem yu{w:bf}{el size sCap:au}{s x:aR}{zs:aL}{app:Sem (cG aR)}{news:ak aR}(ha:app.run P w= .ok news.toArray w):
  (jv el size af 0 sCap s x zs 0 app).run P w= .ok (.slice af 0 sCap) w:=by unfold jv;rw[br (bT _)];simp only[bJ,ha,ba,bV]
theorem yt{w:bf}{el size sLen sCap m:au}{base:ar Addr}{s x:aR}{zs:aL}{app:Sem (cG aR)}{mm news:ak aR}{inf:Da}{z:aR}(hi:P.info? el=ab inf)(hz:inf.zero=ab z)
  (h:¬sLen+m<=sCap) (h63:sLen+m<=9223372036854775807) (h48:(sLen+m)*inf.bytes<=140737488355328)
  (ho:(dS size sLen s).run P w.drew= .ok mm.toArray w.drew) (ha:app.run P w.drew= .ok news.toArray w.drew):
  (jv el size base sLen sCap s x zs m app).run P w= .ok (.slice (ab (ad w.heap.size 0)) (sLen+m) (grownCap w (sLen+m) sCap el))
   (w.drew.alloc (.cells (mm.toArray++news.toArray++eb z.cells (grownCap w (sLen+m) sCap el-(sLen+m))) el)):=by
 have ht:∀W,(typeInfo el).run P W= .ok inf W:=λW=>by simp[typeInfo,hi]
 have Zq:∀W,(zeroValue el).run P W= .ok z W:=λW=>by simp[zeroValue,typeInfo,hi,hz]
 have c1:¬(((sLen+m:au):ax)>aj.max/\(zs=ae\/inf.bytes=0)):=by
  have:aj.max=9223372036854775807:=by decide
  rintro ⟨h,_⟩;omega
 have c2:¬(Ba (sLen+m) sCap*inf.bytes>2^48):=by
  have:=growslice_fits (need:=sLen+m) (old:=sCap) (bytes:=inf.bytes) (by omega) h48;have e:2^48=281474976710656:=by decide
  omega
 have Mm:(choose (.appendCap (sLen+m) sCap el)).run P w= .ok (grownCap w (sLen+m) sCap el) w.drew:=by rw[run_choose_drew];rfl
 have abo:∀n W,(askRoom n).run P W= .ok () W:=λn W=>by simp only[askRoom];split<;>simp
 have tN:∀cs,(newRow el cs).run P w.drew= .ok (ad w.heap.size 0) (w.drew.alloc (.cells cs el)):=λcs=>by simp only[newRow,newObj,bJ,kj,ba,bV];rfl
 unfold jv;rw[bF h];simp only[bJ,ht,ba,c1,c2,if_false,Mm,abo,ho,ha,Zq,tN,bV,kc]
structure App (P:b9) (w:bf) (u:au) (x:aR) (z:cG aR) (sz m:au) (news:ak aR):Prop where
 h:(((∃e',P.underlying u=ab (.slice e'))\/P.underlying u=ab .string)/\(mz x).run P w= .ok m w/\(dS sz m x).run P w= .ok news.toArray w/\(dS sz m x).run P w.drew= .ok news.toArray w.drew)\/
  ((∃k,P.underlying u=ab (.int k))/\(∃k',x= .int k' (m:ax))/\news=(eb z m).toList)
 len:news.length=m*sz
 one:∀v∈news,v.oneCell'=ae
structure Rp (w w':bf) (p p':Pl) (m:au) (news:ak aR):Prop where
 n:p'.n=p.n+m
 sz:p'.sz=p.sz
 nil:p'.nil=ae->p'.cap=0/\p.n=0/\m=0
 mem:p'.nil=ah->∃gh,k8 w' p'.blk gh/\p'.n<=p'.cap/\p'.cap<=maxLen/\p'.off+p'.cap*p'.sz<=gh.size/\
  (∀k u,k<p.n*p.sz->w.cell? (ad p.blk (p.off+k))=ab u->gh[p'.off+k]? =ab u)/\(∀k,k<m*p.sz->gh[p'.off+p.n*p.sz+k]? =news[k]?)
 blk:p'.nil=ah->(p.nil=ah/\p'.blk=p.blk)\/p'.blk=w.heap.size
 old:∀b,b<w.heap.size->(p'.nil=ah->b≠p'.blk)->w'.heap[b]? =w.heap[b]?
 size:w.heap.size<=w'.heap.size
 os:w'.os=w.os
 tape:w'.tape=w.tape
 output:w'.output=w.output
theorem pJ{w:bf}{t u ty el:au}{inf:Da}{z:aR}{p:Pl}{x:aR}{m:au}{news:ak aR}(hu:P.underlying t=ab (.slice el))(hi:P.info? el=ab inf)(hz:inf.zero=ab z)(Ii:z.cells.size=p.sz)(eM:inf.size=p.sz)
  (gH:p.nil=ae->p.n=0) (abR:p.nil=ah->∃vals,k8 w p.blk vals/\p.n<=p.cap/\p.cap<=maxLen/\p.off+p.cap*p.sz<=vals.size)
  (hx:App P w u x z.cells p.sz m news) (h1:(p.n+m)*inf.bytes<=140737488355328) (h2:p.n+m<=9223372036854775807):
  ∃p' w',(fA #[t,u] ty #[jj p,x]).run P w= .ok (jj p') w'/\Rp w w' p p' m news:=by
 have hmb:m*inf.bytes<=140737488355328:=c5 (bD _ (by omega)) h1;have Zq:∀W,(zeroValue el).run P W= .ok z W:=λW=>by simp[zeroValue,typeInfo,hi,hz]
 have Wp:p.n+m<=maxLen:=by simp only[maxLen];omega
 have tail:∀(base:ar Addr) (sLen sCap:au),∃(zs:aL) (app:Sem (cG aR)),(fA #[t,u] ty #[.slice base sLen sCap,x]).run P w=(jv el p.sz base sLen sCap (.slice base sLen sCap) x zs m app).run P w/\
   app.run P w= .ok news.toArray w/\app.run P w.drew= .ok news.toArray w.drew:=by
  intro base sLen sCap
  rcases hx.h with ⟨hd,hl,hf,hf2⟩|⟨⟨k,hk⟩,⟨k',Zo⟩,hn⟩
  ·have:=ua (P:=P) (w:=w) (ty:=ty) hu hi hd (base:=base) (sLen:=sLen) (sCap:=sCap) hl;rw[eM]at this;exact⟨_,_,this,hf,hf2⟩
  ·have:=xD (P:=P) (w:=w) (ty:=ty) hu hi hk (base:=base) (sLen:=sLen) (sCap:=sCap) Zo (by omega) hmb;rw[eM]at this;refine⟨_,_,this, ?_, ?_⟩
   ·rw[hn];split
    ·rename_i h0;have:eb z.cells m= #[]:=uJ (by rw[size_zeroCells,Ii,h0]);rw[this];rfl
    ·simp only[bJ,Zq,ba,bV,pR]
   ·rw[hn];split
    ·rename_i h0;have:eb z.cells m= #[]:=uJ (by rw[size_zeroCells,Ii,h0]);rw[this];rfl
    ·simp only[bJ,Zq,ba,bV,pR]
 have grow:∀(base:ar Addr) (sCap:au) (mm:ak aR) (zs:aL) (app:Sem (cG aR)),¬p.n+m<=sCap->mm.length=p.n*p.sz->(∀k u,k<p.n*p.sz->w.cell? (ad p.blk (p.off+k))=ab u->mm[k]? =ab u)->
   (dS p.sz p.n (.slice base p.n sCap)).run P w.drew= .ok mm.toArray w.drew->app.run P w.drew= .ok news.toArray w.drew->
   ∃p' w',(jv el p.sz base p.n sCap (.slice base p.n sCap) x zs m app).run P w= .ok (jj p') w'/\Rp w w' p p' m news:=by
  intro base sCap mm zs app hc za G_ hf ha
  have hr:=yt (P:=P) (w:=w) (size:=p.sz) (zs:=zs) (x:=x) (base:=base) hi hz hc h2 h1 hf ha
  refine⟨⟨ah,w.heap.size,0,grownCap w (p.n+m) sCap el,p.n+m,p.sz⟩,_,hr,⟨rfl,rfl,λh=>(by cases h),λ_=> ?_,λ_=> .inr rfl,λb hb _=>heap_alloc_old w.drew _ b hb,by simp,rfl,rfl,rfl⟩⟩
  have Zd:=grownCap_ge w (p.n+m) sCap el
  refine⟨_,⟨_,_,heap_alloc_new w.drew _,λq _=>by simp⟩,Zd,grownCap_le_maxLen w _ _ _ Wp, ?_,λk u hk oK=> ?_,λk hk=> ?_⟩
  ·simp only[Array.size_append,Mf,size_zeroCells,Ii,za,hx.len,<-cB,bu];exact bD _ (by omega)
  ·rw[bu,Gv,yz (by simpa [za]using hk),fm];exact G_ k u hk oK
  ·rw[bu,Gv,Array.getElem?_append_right (by simp[za]),yz (by simp[za,hx.len];omega),fm];congr 1;simp[za]
 cases hq:p.nil with
 |true=>
  have hn:=gH hq;rw[kK hq];obtain⟨zs,app,hr,ha,UA⟩:=tail af 0 0;rw[hr];by_cases hm:m=0
  ·subst hm;refine⟨⟨ae,0,0,0,0,p.sz⟩,w,yu ha,⟨by simp[hn],rfl,λ_=>⟨rfl,hn,rfl⟩,λh=>(by cases h),λh=>(by cases h),λ_ _ _=>rfl,cD _,rfl,rfl,rfl⟩⟩
  ·have:=grow af 0 [] zs app (by omega) (by simp[hn]) (λk u hk=>by rw[hn]at hk;simp at hk) (by rw[hn];exact run_firstCells_none _ _ _ _ _) UA;rwa[hn]at this
 |false=>
  rw[dK hq];obtain⟨vals,hb,J6,Nx,mJ⟩:=abR hq;obtain⟨zs,app,hr,ha,UA⟩:=tail (ab (ad p.blk p.off)) p.n p.cap;rw[hr];have hle:p.n*p.sz<=p.cap*p.sz:=bD _ J6;by_cases hc:p.n+m<=p.cap
  ·have qA:p.off+p.n*p.sz+news.length<=vals.size:=by have:(p.n+m)*p.sz<=p.cap*p.sz:=bD _ hc;rw[cB]at this;rw[hx.len];omega
   have DW:=kM (P:=P) w hb qA hx.one;have hrr:=yv (P:=P) (s:= .slice (ab (ad p.blk p.off)) p.n p.cap) (x:=x) (el:=el) (size:=p.sz) (zs:=zs) ha hc (by rw[Addr.ld];exact DW);refine⟨⟨ah,p.blk,p.off,p.cap,p.n+m,p.sz⟩,_,hrr,⟨rfl,rfl,λh=>(by cases h),λ_=>⟨_,hb.setRow (dL qA),hc,Nx,by rw[dL qA];exact mJ,λk u hk oK=> ?_,λk hk=> ?_⟩,λ_=> .inl ⟨hq,rfl⟩,λb _ H_=>setRow_other w _ b _ (H_ rfl),by simp[i9],rfl,rfl,rfl⟩⟩
   ·show(dq vals (p.off+p.n*p.sz) news)[p.off+k]? =ab u;rw[eL qA,bF (by omega),<-hb.cell];exact oK
   ·show(dq vals (p.off+p.n*p.sz) news)[p.off+p.n*p.sz+k]? =news[k]?;rw[eL qA,br (by rw[hx.len];omega)];congr 1;omega
  ·have hcell:∀k,k<p.n*p.sz->w.cell? (ad p.blk (p.off+k))=vals[p.off+k]? :=λk _=>hb.cell _;let mm:=(vals.toList.drop p.off).take (p.n*p.sz);have za:mm.length=p.n*p.sz:=by simp only[mm,eA,im,c8];omega
   have G_:∀k u,k<p.n*p.sz->w.cell? (ad p.blk (p.off+k))=ab u->mm[k]? =ab u:=λk u hk oK=>by rw[hcell k hk]at oK;simp only[mm,dj,br hk,c7,bY,oK]
   refine grow (ab (ad p.blk p.off)) p.cap mm zs app hc za G_ ?_ UA;refine run_firstCells_some w.drew p.sz p.n _ _ _ mm za (λj v hj=> ?_);have jc:j<p.n*p.sz:=by rw[<-za];exact(aG.1 hj).1
   simp only[mm,dj,br jc,c7,bY]at hj;rw[Addr.ld];have:=hcell j jc;rw[hj]at this;simpa using this
end
end Go.FG

