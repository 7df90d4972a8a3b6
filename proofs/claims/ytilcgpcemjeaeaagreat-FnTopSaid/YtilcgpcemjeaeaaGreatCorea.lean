/- An evaluator for the part of the language that this program uses, proved sound over the model: states told as values and lists; what an evaluation tells, the call does. No condition. -/
import Derived.Calls
import Derived.Orders
import Derived.Below
import Derived.Laws.AppendOwn
import Derived.Laws.Slices
import Derived.Laws.StructEq
import Derived.Laws.Tables
import Derived.Laws.MakeOwn
import Derived.Laws.IdiomStrings
import Derived.Laws.BytesArg
import Derived.Laws.NewFold
import Derived.SizedLaws
import Derived.Carry
import Derived.ProofKit
import Derived.KernelRfl
import Derived.Laws.Strings
set_option linter.unusedVariables false
set_option linter.unusedSimpArgs false
set_option maxRecDepth 100000
open Array renaming getElem?_eq_some_iff->dV,getD_eq_getD_getElem?->eK,getElem?_setIfInBounds->ou,toArray_toList->um,getElem?_toList->cX,ext'->sJ,length_toList->dS,toList_map->AM,getElem?_map->O9,getElem?_extract->ea,eq_empty_of_size_eq_zero->AL,append_assoc->O8,getElem?_append_left->EK
open BitVec renaming ofInt->cf
open Bool renaming false->ak,true->ai,false_eq_true->dx,and_eq_true->aM,not_eq_true'->dp,and_assoc->nS,or_eq_false_iff->iH,not_false->bP,not_true->aY
open ByteArray renaming size_extract->yM,size_append->dH,empty->Iv,size->eu
open Go renaming IntKind->nA,Value->bn,Operand->dy,Oper->fu,World->bM,Program->cZ,TypeInfo->KU
open Go.Act renaming put->WI,eval->IM
open Go.Builtin renaming len_->wE,max2->EN,min2->EO,clear_->oW,zeroCells->fO,nextslicecap->Iw,firstCells->fm,lenOf->pJ,append_->ix
open Go.Instr renaming loadAt->yW,sureAddr->uX,storeAt->Xr,fieldAt->Xp,indexAt->Xq,sliceBound->qX,sliceBounds->ni,sliceAt->qB,fill->pK,buildSlice->Al
open Go.IntKind renaming i64->ao,wrap_i64->qh
open Go.Op renaming bytesLess->b9
open Go.Oper renaming wp->Pb
open Go.Region renaming binds->mW
open Go.Result renaming andThen_ok->bI
open Go.Sem renaming run_bind->cj,run_pure->cT,run->nB,run_ite->nr
open Go.World renaming cell?_of_block->uY,setRow->lP
open Int renaming toNat_natCast->dK,natCast_mul->Xu
open List renaming mem_cons_of_mem->c7,mem_cons->cB,mem_cons_self->dv,mem_flatMap->bQ,mem_of_getElem?->aR,append_nil->dj,length_nil->jR,getElem?_toArray->ig,append_assoc->cy,getElem?_append_left->dF,getElem?_take->d_,getElem?_append_right->db,getElem?_drop->dQ,length_eq_one_iff->g6,getElem?_cons_succ->dM,getD->kA,getElem?_map->bL,getElem_mem->bB,mem_map->cU,all_eq_true->bu,range->b8,getElem?_range->vR,getElem?_eq_none->lh,getElem?_eq_some_iff->aT,mem_of_mem_drop->lj,mem_of_mem_take->lk,getElem?_of_mem->b7,map_toArray->DY,map_cons->fw,map_nil->Ce,ext_getElem?->WN,eq_nil_of_length_eq_zero->gh,mem_append->bf,length_cons->dc,foldl_cons->DX,map_map->mz,map_congr_left->QS,size_toArray->WQ,length_map->bV,getD_eq_getElem?_getD->cY,getElem?_set->QR,all_cons->u0,length_take->eL,length_drop->iC,length_singleton->bC,mem_append_left->bN,mem_append_right->bO,nodup_append->eM,length_set->cD,mem_or_eq_of_mem_set->jI,nodup_cons->kM,nil_append->gF,mem_singleton->a_,getElem?_cons_zero->sL
open Nat renaming beq->bF,blt->qC,ble->fJ,le_refl->cG,le_trans->dg,lt_of_lt_of_le->jy,eq_of_beq_eq_true->aW,add_zero->yZ,add_assoc->mi,le_of_ble_eq_true->cM,add_mul->dn,zero_le->bD,mul_le_mul_right->b_,eq_zero_or_pos->DL,div_lt_iff_lt_mul->yN,mod_lt->DM,div_add_mod->KD,mul_comm->ET,zero_add->bX,lt_or_gt_of_ne->QU,add_comm->jd,sub_zero->sA,lt_irrefl->bk
open Option renaming some->ah,none->aj,map_some->ji,getD_some->y_
open Option.some renaming inj->aJ,injEq->jC
open Prod.mk renaming inj->bY,injEq->jj
open UInt8 renaming ofNat->ay
open _root_ renaming Nat->aE,Int->ax,Bool->aU,ByteArray->aq,List->az,Option->aA,Array->dt,if_pos->bA,if_neg->bJ,absurd->cL,cond_true->au,cond_false->aw,decide_eq_true_eq->bh,of_decide_eq_true->cq,congrArg->lV
namespace Go.FG
inductive Ck where
 |i (k:nA)|b|s|l (e:aE)|o
inductive CV where
 |i (k:nA) (n:ax)|b (x:aU)|s (x:aq)|l (e:aE) (xs:az (az CV))
abbrev aQ:=az (az CV)
def CV.kd:CV->Ck
 | .i k _=> .i k| .b _=> .b| .s _=> .s| .l e _=> .l e
def bE:CV->ax| .i _ n=>n|_=>0
def cvB:CV->aU| .b x=>x|_=>ak
def bz:CV->aq| .s x=>x|_=>⟨#[]⟩
def iX:CV->aQ| .l _ xs=>xs|_=>[]
def ar(xs:aQ)(i j:aE):CV:=(xs.getD i []).getD j (.b ak)
inductive AV where
 |i (k:nA) (n:ax)|b (x:aU)|s (x:aq)
 |sh (e:aE) (xs:aQ)
 |nl
 |own (nm:aE)
 |vw (nm lo hi:aE)
 |bp (nm j:aE)
 |rp (nm i j:aE)
 |sp (e:aE) (xs:aQ) (i j:aE)
 |inn (nm i j:aE)
 |ip (nm i j i2 j2:aE)
 |fn (f:aE) (iW:az (az CV))
 |fp (xs:az CV) (j:aE)
inductive SV where
 |v (agg:aU) (xs:az AV)|kq (xs:az (aU×az AV))|un
inductive Obj where
 |box (xs:az AV)|oe (xs:az CV)|row (e:aE) (ex:aU) (xs:aQ)|fW (e:aE) (xs:aQ)|dead
inductive eP where
 |v (x:SV)|o (x:Obj)|j9
def zP(n:aE):aU:=bF (n%1000) 999&&qC n 900000000
abbrev St:=aE->eP
def pS(s:St)(k:aE)(c:eP):St:=λn=>bif bF n k then c else s n
def wr(s:St):az (aE×eP)->St
 |[]=>s
 |(k,c)::r=>wr (pS s k c) r
def qv(n:aE):aE:=2*n
def c9(n:aE):aE:=2*n+1
inductive Rd (α:Type) where
 |ret (a:α)|fail|get (k:aE) (f:eP->Rd α)
def Rd.bind{α β:Type}:Rd α->(α->Rd β)->Rd β
 | .ret a,f=>f a
 | .fail,_=> .fail
 | .get k g,f=> .get k λc=>(g c).bind f
def Rd.run{α:Type}:Rd α->St->az aE->aA (α×az aE)
 | .ret a,_,l=>ah (a,l)
 | .fail,_,_=>aj
 | .get k f,s,l=>(f (s k)).run s (k::l)
structure TI where
 agg:aU
 ks:az Ck
 bytes:aE
inductive AA where
 |i (k:nA) (n:ax)|b (x:aU)|s (x:aq)|sh (e:aE) (xs:aQ)|nl
 |ow (e:aE) (ex:aU) (xs:aQ)|kp (xs:aQ)|fn (f:aE) (iW:az (az CV))
inductive fa where
 |v (agg:aU) (xs:az AA)|pt (xs:az AA)|fb (xs:az CV)
structure dq where
 rs:az fa
 outs:az (az AA)
structure Tab where
 ty:aE->aA TI
 fo:aE->aE->aA (aE×aE)
 eqs:az aE
 To:aE->aE->aU:=λ_ _=>ak
inductive Om where
 |nat|own (e:aE)|sh (e:aE)
structure fT extends Tab where
 call:aE->az fa->aA (aU×dq)
 om:aE->aE->Om
 mode:aE->aE->aU
 keep:aE->az aE
 tk:aE->aU
instance:Coe fT Tab:=⟨fT.toTab⟩
structure tc where
 cond:aU
 ws:az (aE×eP)
def mS(n:aE):az aE->aU
 |[]=>ak|m::r=>bF n m||mS n r
def cst:bn->SV
 | .int k n=> .v ak [.i k n]| .bool x=> .v ak [.b x]| .string x=>bif fJ x.size 4611686018427387904 then .v ak [.s x]else .un
 | .slice aj 0 0=> .v ak [.nl]
 |_=> .un
def H3(x:dy):Rd SV:=
 match x with
 | .tmp t=> .get (qv t) λ| .v x=> .ret x|_=> .ret .un
 | .const v=> .ret (cst v)
 | .func f=> .ret (.v ak [.fn f []])
 | .global _=> .fail
def jN(nm:aE):Rd Obj:= .get (c9 nm) λ| .o x=> .ret x|_=> .fail
def fresh(nm:aE):Rd Unit:= .get (c9 nm) λ| .j9=>bif fJ nm 899999999 then .ret ()else .fail|_=> .fail
def rZ(x:dy):Rd AV:=(H3 x).bind λ| .v ak [a]=> .ret a|_=> .fail
def C8(x:dy):Rd (nA×ax):=(rZ x).bind λ| .i k n=> .ret (k,n)|_=> .fail
def dw(o:fu)(v:SV):az (aE×eP):=match o.dst with|some d=>[(qv d, .v v)]|none=>[]
def val(o:fu)(v:SV):Rd tc:= .ret ⟨ai,dw o v⟩
def Af(o:fu)(v:AV):Rd tc:=val o (.v ak [v])
def My(o:fu)(c:aU)(v:AV):Rd tc:= .ret ⟨c,dw o (.v ak [v])⟩
def s6(E:fT)(t:aE):Rd TI:=match E.ty t with|some i=> .ret i|none=> .fail
def p_(E:fT)(t:aE):Rd Ck:=(s6 E t).bind λti=>match ti.agg,ti.ks with|false,[k]=> .ret k|_,_=> .fail
def DH:Ck->AV
 | .i k=> .i k 0| .b=> .b ak| .s=> .s ⟨#[]⟩| .l _=> .nl| .o=> .nl
def Ah:Ck->CV
 | .i k=> .i k 0| .b=> .b ak| .s=> .s ⟨#[]⟩| .l e=> .l e []| .o=> .b ak
def L5(ks:az Ck):aU:=ks.all λ| .o=>ak|_=>ai
def dec:Ck->CV->AV
 | .i k,x=> .i k (bE x)| .b,x=> .b (cvB x)| .s,x=> .s (bz x)| .l e,x=> .sh e (iX x)| .o,_=> .nl
def vj(xs:aQ)(i:aE):aE->az Ck->az AV
 |_,[]=>[]
 |j,k::ks=>dec k (ar xs i j)::vj xs i (j+1) ks
def Be(nm:aE)(xs:aQ)(i:aE):aE->az Ck->az AV
 |_,[]=>[]
 |j, .l _::ks=> .inn nm i j::Be nm xs i (j+1) ks
 |j,k::ks=>dec k (ar xs i j)::Be nm xs i (j+1) ks
def ZQ:CV->AV
 | .i k n=> .i k n| .b x=> .b x| .s x=> .s x| .l e xs=> .sh e xs
def iF{α:Type}(xs:az α)(j:aE)(ys:az α):az α:=xs.take j++ys++xs.drop (j+ys.length)
def eC(xs:aQ)(i j:aE)(ys:az CV):aQ:=xs.set i (iF (xs.getD i []) j ys)
def aCT(agg:aU)(xs:az AV):SV:= .v agg xs
def eW(xs:aQ)(lo hi:aE):aQ:=(xs.drop lo).take (hi-lo)
def plain(ks:az Ck):aU:=ks.all λ| .i _=>ai| .b=>ai| .s=>ai|_=>ak
def ckB:Ck->Ck->aU
 | .i a, .i b=>decide (a=b)| .b, .b=>ai| .s, .s=>ai| .l a, .l b=>bF a b| .o, .o=>ai|_,_=>ak
def qq:az Ck->az Ck->aU
 |[],[]=>ai|x::l,y::r=>ckB x y&&qq l r|_,_=>ak
def Jq(ex:aU)(k:Ck)(a:AV):Rd (CV×az (aE×eP)):=
 match k,a with
 | .i k, .i k' n=>if k=k' then .ret (.i k n,[])else .fail
 | .b, .b x=> .ret (.b x,[])
 | .s, .s x=> .ret (.s x,[])
 | .l e, .nl=> .ret (.l e [],[])
 | .l e, .sh e' xs=>bif bF e e'&& !ex then .ret (.l e xs,[])else .fail
 | .l e, .own nm=>(jN nm).bind λ
  | .row e' uG xs=>bif bF e e'&&uG then(bif ex then .ret (.l e xs,[(c9 nm, .o .dead)])else .fail)else .fail
  | .fW e' xs=>bif bF e e'&& !ex then .ret (.l e xs,[])else .fail
  |_=> .fail
 |_,_=> .fail
def zH(ex:aU):az Ck->az AV->Rd (az CV×az (aE×eP))
 |[],[]=> .ret ([],[])
 |k::ks,a::r=>(Jq ex k a).bind λ(c,w)=>(zH ex ks r).bind λ(cs,ws)=> .ret (c::cs,w++ws)
 |_,_=> .fail
def ajM:az AV->aU
 |[]=>ai
 | .sh _ _::_=>ak
 |_::r=>ajM r
end Go.FG

namespace Go.FG
def afi(op:BinOp)(k:nA)(a b:ax):aA (aU×AV):=
 match op with
 | .add=>ah (ai, .i k (k.wrap (a+b)))
 | .sub=>ah (ai, .i k (k.wrap (a-b)))
 | .mul=>ah (ai, .i k (k.wrap (a*b)))
 | .quo=>ah (!(b==0), .i k (k.wrap (a.tdiv b)))
 | .rem=>ah (!(b==0), .i k (a.tmod b))
 | .and=>ah (ai, .i k (k.wrap (cf k.bits a&&&cf k.bits b).toNat))
 | .or=>ah (ai, .i k (k.wrap (cf k.bits a|||BitVec.ofInt k.bits b).toNat))
 | .xor=>ah (ai, .i k (k.wrap (cf k.bits a^^^cf k.bits b).toNat))
 | .eql=>ah (ai, .b (a==b))
 | .neq=>ah (ai, .b (a !=b))
 | .lss=>ah (ai, .b (decide (a<b)))
 | .leq=>ah (ai, .b (decide (a<=b)))
 | .gtr=>ah (ai, .b (decide (a>b)))
 | .geq=>ah (ai, .b (decide (a≥b)))
 |_=>aj
def afk(op:BinOp)(a b:aq):aA (aU×AV):=
 match op with
 | .add=>ah (decide (a.size+b.size<=4611686018427387904), .s (a++b))
 | .eql=>ah (ai, .b (a.toList==b.toList))
 | .neq=>ah (ai, .b (!(a.toList==b.toList)))
 | .lss=>ah (ai, .b (b9 a.toList b.toList))
 | .leq=>ah (ai, .b (b9 a.toList b.toList||a.toList==b.toList))
 | .gtr=>ah (ai, .b (!(b9 a.toList b.toList||a.toList==b.toList)))
 | .geq=>ah (ai, .b (!(b9 a.toList b.toList)))
 |_=>aj
def X1:az AV->az AV->aA aU
 |[],[]=>ah ai
 | .i k a::l, .i k' b::r=>if k=k' then(match X1 l r with|some t=>ah ((a==b)&&t)|none=>aj)else aj
 | .b a::l, .b b::r=>match X1 l r with|some t=>ah ((a==b)&&t)|none=>aj
 | .s a::l, .s b::r=>match X1 l r with|some t=>ah ((a.toList==b.toList)&&t)|none=>aj
 |_,_=>aj
def HN:AV->Ck
 | .i k _=> .i k| .b _=> .b| .s _=> .s|_=> .o
def K_(op:BinOp)(k:Ck):AV->AV->aA (aU×AV)
 | .i k a, .i k' b=>if k=k' then afi op k a b else aj
 | .s a, .s b=>afk op a b
 | .b a, .b b=>match op,k with| .eql, .b=>ah (ai, .b (a==b))| .neq, .b=>ah (ai, .b (!(a==b)))|_,_=>aj
 |_,_=>aj
def shV(op:BinOp):AV->AV->aA (aU×AV)
 | .i k a, .i _ b=>match op with
  | .shl=>ah (decide (0<=b), .i k (k.wrap (a*2^(min b.toNat k.bits))))
  | .shr=>ah (decide (0<=b), .i k (a.fdiv (2^(min b.toNat k.bits))))
  |_=>aj
 |_,_=>aj
def P4:BinOp->aU| .shl=>ai| .shr=>ai|_=>ak
def isEq:BinOp->aU| .eql=>ai| .neq=>ai|_=>ak
def Va{α:Type}:aA α->Rd α|some a=> .ret a|none=> .fail
def afj(E:fT)(t:aE)(op:BinOp)(x y:SV):Rd (aU×AV):=
 match x,y with
 | .v ak [a], .v ak [b]=>bif P4 op then Va (shV op a b)else(p_ E t).bind λk=>Va (K_ op k a b)
 | .v ai xs, .v ai ys=>(s6 E t).bind λti=>
   bif isEq op&&mS t E.eqs&&qq (xs.map HN) ti.ks&&qq (ys.map HN) ti.ks&&plain ti.ks then Va (match X1 xs ys with|some r=>ah (ai,AV.b (match op with| .eql=>r|_=> !r))|none=>aj)else .fail
 |_,_=> .fail
def NP:az AV->az (aE×az AV)->az AV
 |z,[]=>z
 |z,(j,ys)::r=>NP (iF z j ys) r
def H4(E:fT)(t:aE):az (aE×dy)->Rd (az (aE×az AV))
 |[]=> .ret []
 |(f,x)::r=>(H3 x).bind λ
  | .v _ ys=>match E.fo t f with
   |some (o,n)=>bif bF ys.length n then(H4 E t r).bind λl=> .ret ((o,ys)::l)else .fail
   |none=> .fail
  |_=> .fail
def mM(E:fT)(a:AV):Rd (aE×aQ):=
 match a with
 | .sh e xs=> .ret (e,xs)
 | .own nm=>(jN nm).bind λ| .row e _ xs=> .ret (e,xs)| .fW e xs=> .ret (e,xs)|_=> .fail
 | .vw nm lo hi=>(jN nm).bind λ| .row e _ xs=> .ret (e,eW xs lo hi)| .fW e xs=> .ret (e,eW xs lo hi)|_=> .fail
 | .inn nm i j=>(jN nm).bind λ
  | .row e ai xs=>(s6 E e).bind λti=>match ti.ks[j]? with|some (.l e2)=> .ret (e2,iX (ar xs i j))|_=> .fail
  |_=> .fail
 |_=> .fail
def agt(E:fT)(k:Ck)(a:AV):Rd ax:=
 match k,a with
 | .s, .s x=> .ret x.size
 | .l _, .nl=> .ret 0
 | .l _, .vw nm lo hi=>(jN nm).bind λ| .row _ _ _=> .ret ((hi-lo:aE):ax)| .fW _ _=> .ret ((hi-lo:aE):ax)|_=> .fail
 | .l _,a=>(mM E a).bind λ(_,xs)=> .ret xs.length
 |_,_=> .fail
def Lj(ex:aU)(ks:az Ck):az (aE×dy)->aQ->Rd (aQ×az (aE×eP))
 |[],z=> .ret (z,[])
 |(i,x)::r,z=>(H3 x).bind λ
  | .v _ ys=>bif fJ (i+1) z.length then(zH ex ks ys).bind λ(cs,w)=>(Lj ex ks r (z.set i cs)).bind λ(z,ws)=> .ret (z,w++ws)else .fail
  |_=> .fail
def NK:az (aE×dy)->Rd aU
 |[]=> .ret ai
 |(_,x)::r=>(H3 x).bind λ
  | .v _ ys=>(NK r).bind λb=> .ret (ajM ys&&b)
  |_=> .fail
def aP(ks:az Ck)(n:aE):aQ:=List.replicate n (ks.map Ah)
def bytesOf(xs:aQ):aq:=⟨(xs.map λy=>ay (bE (y.getD 0 (.b ak))).toNat).toArray⟩
def qS(s:aq):aQ:=s.data.toList.map λb=>[.i .u8 (b.toNat:ax)]
def u8s:az Ck->aU|[.i .u8]=>ai|_=>ak
def flat(E:fT)(ks:az Ck):aU:=ks.all λ
 | .l e=>match E.ty e with|some ti=>plain ti.ks|none=>ak
 |_=>ai
def cw(n:aE)(bytes:aE):aU:=decide (n*bytes<=140737488355328)&&decide (n<=9223372036854775807)
def tP(E:fT)(ti:TI)(p:AV):Rd (az AV):=
 match p with
 | .bp nm j=>(jN nm).bind λ
  | .box xs=>bif fJ (j+ti.ks.length) xs.length then .ret ((xs.drop j).take ti.ks.length)else .fail
  | .oe xs=>bif fJ (j+ti.ks.length) xs.length then .ret (((xs.drop j).take ti.ks.length).map ZQ)else .fail
  |_=> .fail
 | .fp xs j=>bif fJ (j+ti.ks.length) xs.length then .ret (((xs.drop j).take ti.ks.length).map ZQ)else .fail
 | .sp e xs i j=>(s6 E e).bind λte=>bif qq ((te.ks.drop j).take ti.ks.length) ti.ks then .ret (vj xs i j ti.ks)else .fail
 | .rp nm i j=>(jN nm).bind λ
  | .row e ex xs=>(s6 E e).bind λte=>bif qq ((te.ks.drop j).take ti.ks.length) ti.ks then(bif ex&&zP nm then(bif plain ti.ks then .ret (vj xs i j ti.ks)else .fail)else .ret (bif ex then Be nm xs i j ti.ks else vj xs i j ti.ks))else .fail
  | .fW e xs=>(s6 E e).bind λte=>bif qq ((te.ks.drop j).take ti.ks.length) ti.ks then .ret (vj xs i j ti.ks)else .fail
  |_=> .fail
 | .ip nm i j i2 j2=>(jN nm).bind λ
  | .row e ai xs=>(s6 E e).bind λte=>match te.ks[j]? with
   |some (.l e2)=>(s6 E e2).bind λt2=>bif qq ((t2.ks.drop j2).take ti.ks.length) ti.ks then .ret (vj (iX (ar xs i j)) i2 j2 ti.ks)else .fail
   |_=> .fail
  |_=> .fail
 |_=> .fail
def Il(E:fT)(p:AV)(ys:az AV):Rd (az (aE×eP)):=
 match p with
 | .bp nm j=>(jN nm).bind λ
  | .box xs=>bif fJ (j+ys.length) xs.length then .ret [(c9 nm, .o (.box (iF xs j ys)))]else .fail
  |_=> .fail
 | .rp nm i j=>(jN nm).bind λ
  | .row e ex xs=>(s6 E e).bind λte=>bif plain ((te.ks.drop j).take ys.length)then(zH ak ((te.ks.drop j).take ys.length) ys).bind λ(cs,_)=> .ret [(c9 nm, .o (.row e ex (eC xs i j cs)))]else .fail
  |_=> .fail
 | .ip nm i j i2 j2=>(jN nm).bind λ
  | .row e ai xs=>(s6 E e).bind λte=>match te.ks[j]? with
   |some (.l e2)=>(s6 E e2).bind λt2=>bif plain t2.ks then(zH ak ((t2.ks.drop j2).take ys.length) ys).bind λ(cs,_)=>
    .ret [(c9 nm, .o (.row e ai (eC xs i j [.l e2 (eC (iX (ar xs i j)) i2 j2 cs)])))]else .fail
   |_=> .fail
  |_=> .fail
 |_=> .fail
def J6:az AV->aU
 |[]=>ai
 | .own _::_=>ak
 |_::r=>J6 r
def zW:aE->az AV->aA (aE×aE)
 |_,[]=>aj
 |q, .own n::r=>bif J6 r then ah (q,n)else aj
 |q,_::r=>zW (q+1) r
def Eh(e2 n2:aE)(zs:aQ):az Ck->az AV->aA (az CV)
 |[],[]=>ah []
 | .i k::ks, .i k' x::r=>if k=k' then(Eh e2 n2 zs ks r).map (.i k x:: ·)else aj
 | .b::ks, .b x::r=>(Eh e2 n2 zs ks r).map (.b x:: ·)
 | .s::ks, .s x::r=>(Eh e2 n2 zs ks r).map (.s x:: ·)
 | .l e::ks, .own n::r=>bif bF e e2&&bF n n2 then(Eh e2 n2 zs ks r).map (.l e2 zs:: ·)else aj
 |_,_=>aj
def Ik(E:fT)(n i j:aE)(ys:az AV):Rd (az (aE×eP)):=
 (jN n).bind λ
 | .row e ai xs=>(s6 E e).bind λte=>match zW 0 ys with
  |some (q,n2)=>bif bF n n2 then .fail else(jN n2).bind λ
   | .row e2 ai zs=>(s6 E e2).bind λt2=>bif plain t2.ks&&fJ (j+ys.length) te.ks.length then(match Eh e2 n2 zs ((te.ks.drop j).take ys.length) ys with
    |some cs=> .ret [(c9 n, .o (.row e ai (eC xs i j cs))),(c9 n2, .o .dead)]
    |none=> .fail)else .fail
   |_=> .fail
  |none=> .fail
 |_=> .fail
def Wn(E:fT)(p:AV)(ys:az AV):Rd (az (aE×eP)):=
 match p with
 | .rp n i j=>bif zP n then Ik E n i j ys else Il E (.rp n i j) ys
 |p=>Il E p ys
def Tj(E:fT)(t:aE)(f:aE)(p:AV):Rd AV:=
 match E.fo t f with
 |none=> .fail
 |some (o,_)=>match p with
  | .bp nm j=> .ret (.bp nm (j+o))
  | .rp nm i j=> .ret (.rp nm i (j+o))
  | .sp e xs i j=> .ret (.sp e xs i (j+o))
  | .ip nm i j i2 j2=> .ret (.ip nm i j i2 (j2+o))
  | .fp xs j=> .ret (.fp xs (j+o))
  |_=> .fail
def TQ(E:fT)(e:aE)(x:AV)(n:ax):Rd (aU×AV):=
 match x with
 | .sh e' xs=>bif bF e e' then .ret (decide (0<=n)&&decide (n<(xs.length:ax)), .sp e' xs n.toNat 0)else .fail
 | .own nm=>(jN nm).bind λ
  | .row e' _ xs=>bif bF e e' then .ret (decide (0<=n)&&decide (n<(xs.length:ax)), .rp nm n.toNat 0)else .fail
  | .fW e' xs=>bif bF e e' then .ret (decide (0<=n)&&decide (n<(xs.length:ax)), .rp nm n.toNat 0)else .fail
  |_=> .fail
 | .vw nm lo hi=>(jN nm).bind λ
  | .row e' _ xs=>bif bF e e' then .ret (decide (0<=n)&&decide (n<((hi-lo:aE):ax)), .rp nm (lo+n.toNat) 0)else .fail
  | .fW e' xs=>bif bF e e' then .ret (decide (0<=n)&&decide (n<((hi-lo:aE):ax)), .rp nm (lo+n.toNat) 0)else .fail
  |_=> .fail
 | .inn nm i j=>(jN nm).bind λ
  | .row e1 ai xs=>(s6 E e1).bind λte=>match te.ks[j]? with
   |some (.l e')=>bif bF e e' then .ret (decide (0<=n)&&decide (n<((iX (ar xs i j)).length:ax)), .ip nm i j n.toNat 0)else .fail
   |_=> .fail
  |_=> .fail
 |_=> .fail
def oh(x:aA dy)(d:ax):Rd ax:=
 match x with
 |none=> .ret d
 |some x=>(C8 x).bind λ(_,n)=> .ret n
def ic(l h n:ax):aU:=decide (0<=l)&&decide (l<=h)&&decide (h<=n)
def VF(e:aE)(x:AV)(lo hi:aA dy):Rd (aU×AV):=
 match x with
 | .sh e' xs=>bif bF e e' then(oh lo 0).bind λl=>(oh hi xs.length).bind λh=> .ret (ic l h xs.length, .sh e' (eW xs l.toNat h.toNat))else .fail
 | .own nm=>(jN nm).bind λ
  | .row e' _ xs=>bif bF e e' then(oh lo 0).bind λl=>(oh hi xs.length).bind λh=> .ret (ic l h xs.length, .vw nm l.toNat h.toNat)else .fail
  | .fW e' xs=>bif bF e e' then(oh lo 0).bind λl=>(oh hi xs.length).bind λh=> .ret (ic l h xs.length, .vw nm l.toNat h.toNat)else .fail
  |_=> .fail
 | .vw nm a b=>(jN nm).bind λ
  | .row e' _ _=>bif bF e e' then(oh lo 0).bind λl=>(oh hi ((b-a:aE):ax)).bind λh=> .ret (ic l h ((b-a:aE):ax), .vw nm (a+l.toNat) (a+h.toNat))else .fail
  | .fW e' _=>bif bF e e' then(oh lo 0).bind λl=>(oh hi ((b-a:aE):ax)).bind λh=> .ret (ic l h ((b-a:aE):ax), .vw nm (a+l.toNat) (a+h.toNat))else .fail
  |_=> .fail
 | .nl=>(oh lo 0).bind λl=>(oh hi 0).bind λh=> .ret (ic l h 0, .nl)
 |_=> .fail
def Mp(E:fT)(k:Ck)(x:AV)(lo hi:aA dy):Rd (aU×AV):=
 match k,x with
 | .s, .s a=>(oh lo 0).bind λl=>(oh hi a.size).bind λh=> .ret (ic l h a.size, .s (a.extract l.toNat h.toNat))
 | .l e,x=>(s6 E e).bind λ_=>VF e x lo hi
 |_,_=> .fail
def xD(e:aE)(s:AV):Rd (aU×aQ×az aE):=
 match s with
 | .nl=> .ret (ai,[],[])
 | .own nm=>(jN nm).bind λ
  | .row e' ex xs=>bif bF e e' then .ret (ex,xs,[nm])else .fail
  |_=> .fail
 | .vw nm lo hi=>(jN nm).bind λ
  | .row e' ex xs=>bif bF e e' then .ret (ex,eW xs lo hi,[nm])else .fail
  |_=> .fail
 |_=> .fail
def Uw(E:fT)(tT e:aE)(ks:az Ck)(b:az aE)(x:AV):Rd (aU×aQ×az (aE×eP)):=
 match x with
 | .s a=>bif u8s ks then .ret (ai,qS a,[])else .fail
 | .nl=> .ret (ai,[],[])
 | .sh e' xs=>bif bF e e' then .ret (plain ks,xs,[])else .fail
 | .own nm=>(jN nm).bind λ
  | .row e' ex xs=>bif bF e e' then
    (bif plain ks|| !ex then .ret (plain ks,xs,[])
    else bif mS nm b then .fail
    else bif E.tk tT then .ret (ak,xs,[(c9 nm, .o (.fW e xs))])else .ret (ai,xs,[(c9 nm, .o .dead)]))else .fail
  | .fW e' xs=>bif bF e e' then .ret (plain ks,xs,[])else .fail
  |_=> .fail
 | .vw nm lo hi=>(jN nm).bind λ
  | .row e' ex xs=>bif bF e e' then
    (bif plain ks|| !ex then .ret (plain ks,eW xs lo hi,[])
    else bif mS nm b then .fail
    else bif E.tk tT then .ret (ak,eW xs lo hi,[(c9 nm, .o (.fW e xs))])else .fail)else .fail
  | .fW e' xs=>bif bF e e' then .ret (plain ks,eW xs lo hi,[])else .fail
  |_=> .fail
 | .inn nm i j=>bif plain ks then(mM E (.inn nm i j)).bind λ(e',xs)=>bif bF e e' then .ret (ai,xs,[])else .fail else .fail
 |_=> .fail
def oz(b:az aE):az (aE×eP):=b.map λn=>(c9 n, .o .dead)
def He(E:fT)(tT:aE)(t:aE)(s x:AV):Rd (aU×AV×az (aE×eP)):=
 (s6 E t).bind λti=>match ti.agg,ti.ks with
 |false,[.l e]=>(s6 E e).bind λte=>bif L5 te.ks then(xD e s).bind λ(DN,xs,b)=>
  (Uw E tT e te.ks b x).bind λ(Bf,ys,w2)=>(fresh tT).bind λ_=>
  .ret (cw (xs.length+ys.length) te.bytes, .own tT,oz b++(w2++[(c9 tT, .o (.row e (DN&&Bf) (xs++ys)))]))else .fail
 |_,_=> .fail
def WE(E:fT)(tT:aE)(t:aE)(s:AV)(n:ax):Rd (aU×AV×az (aE×eP)):=
 (s6 E t).bind λti=>match ti.agg,ti.ks with
 |false,[.l e]=>(s6 E e).bind λte=>bif L5 te.ks&&flat E te.ks then(xD e s).bind λ(ex,xs,b)=>(fresh tT).bind λ_=>
  .ret (decide (0<=n)&&cw (xs.length+n.toNat) te.bytes&&decide (n<=9223372036854775807), .own tT,oz b++[(c9 tT, .o (.row e ex (xs++aP te.ks n.toNat)))])else .fail
 |_,_=> .fail
def S9(E:fT)(e:aE)(x:AV):Rd (az (aE×eP)):=
 match x with
 | .own nm=>(jN nm).bind λ
  | .row e' ex xs=>(s6 E e).bind λte=>bif bF e e'&&plain te.ks then .ret [(c9 nm, .o (.row e' ex (aP te.ks xs.length)))]else .fail
  |_=> .fail
 | .vw nm lo hi=>(jN nm).bind λ
  | .row e' ex xs=>(s6 E e).bind λte=>bif bF e e'&&plain te.ks then .ret [(c9 nm, .o (.row e' ex (xs.take lo++aP te.ks (hi-lo)++xs.drop hi)))]else .fail
  |_=> .fail
 | .nl=> .ret []
 |_=> .fail
def iu(mx:aU)(a b:ax):ax:=bif mx then(if b>a then b else a)else(if b<a then b else a)
def xY(mx:aU):az dy->nA->ax->Rd AV
 |[],k,a=> .ret (.i k a)
 |x::r,k,a=>(C8 x).bind λ(_,b)=>xY mx r k (iu mx a b)
end Go.FG

namespace Go.FG
inductive Src where
 |own (nm e:aE) (ex:aU)|no
structure Pk where
 a:AA
 src:Src
 rd:az aE
def AF(E:fT)(mt:aU)(a:AV):Rd Pk:=
 match a with
 | .i k n=> .ret ⟨.i k n, .no,[]⟩| .b x=> .ret ⟨.b x, .no,[]⟩| .s x=> .ret ⟨.s x, .no,[]⟩
 | .sh e xs=> .ret ⟨.sh e xs, .no,[]⟩
 | .nl=> .ret ⟨.nl, .no,[]⟩
 | .fn f iW=> .ret ⟨.fn f iW, .no,[]⟩
 | .own nm=>(jN nm).bind λ
  | .row e ex xs=>bif mt then .ret ⟨.ow e ex xs, .own nm e ex,[]⟩else .ret ⟨.sh e xs, .no,[nm]⟩
  | .fW e xs=> .ret ⟨.sh e xs, .no,[]⟩
  |_=> .fail
 | .vw nm lo hi=>bif mt then .fail else(jN nm).bind λ
  | .row e _ xs=> .ret ⟨.sh e (eW xs lo hi), .no,[nm]⟩
  | .fW e xs=> .ret ⟨.sh e (eW xs lo hi), .no,[]⟩
  |_=> .fail
 | .inn nm i j=>(jN nm).bind λ
  | .row e ai xs=>(s6 E e).bind λte=>match te.ks[j]? with
   |some (.l e2)=>(s6 E e2).bind λt2=>bif plain t2.ks&& !mt then .ret ⟨.sh e2 (iX (ar xs i j)), .no,[nm]⟩else .fail
   |_=> .fail
  |_=> .fail
 |_=> .fail
def Df(E:fT)(mt:aU):az AV->Rd (az Pk)
 |[]=> .ret []
 |a::r=>(AF E mt a).bind λp=>(Df E mt r).bind λl=> .ret (p::l)
structure Pa where
 arg:fa
 box:aA (aE×az AV)
 cs:az Pk
def afe(E:fT)(mt:aU)(x:SV):Rd Pa:=
 match x with
 | .v ak [.bp nm 0]=>bif mt then(jN nm).bind λ
   | .box xs=>(Df E ai xs).bind λl=> .ret ⟨.pt (l.map (·.a)),ah (nm,xs),l⟩
   |_=> .fail
  else .fail
 | .v agg xs=>(Df E mt xs).bind λl=> .ret ⟨.v agg (l.map (·.a)),aj,l⟩
 |_=> .fail
def ZM:Ck->AV->AV
 | .l e, .nl=> .sh e []
 |_,a=>a
def C3:az Ck->az AV->az AV
 |k::ks,a::r=>ZM k a::C3 ks r
 |_,r=>r
def nlz(E:Tab)(t:aA aE)(v:SV):SV:=
 match t with
 |none=>v
 |some t=>match E.ty t,v with
  |some ti, .v g xs=> .v g (C3 ti.ks xs)
  |_,v=>v
def SW(E:fT)(f:aE)(Rg:aA (az aE)):aE->az dy->Rd (az Pa)
 |_,[]=> .ret []
 |p,x::r=>(H3 x).bind λv=>(afe E (E.mode f p) (bif E.mode f p then v else nlz E (match Rg with|some l=>l[p]? |none=>aj) v)).bind λa=>bif fJ a.cs.length 100 then(SW E f Rg (p+1) r).bind λl=> .ret (a::l)else .fail
def Pk.uK(p:Pk):az aE:=match p.src with| .own nm _ _=>[nm]| .no=>[]
def Pa.uK(p:Pa):az aE:=(match p.box with|some (nm,_)=>[nm]|none=>[])++p.cs.flatMap (·.uK)
def Pa.nP(p:Pa):az aE:=p.cs.flatMap (·.rd)
def tU:az aE->aU
 |[]=>ai|n::r=> !mS n r&&tU r
def rO:az aE->az aE->aU
 |[],_=>ai|n::r,l=> !mS n l&&rO r l
def rQ(ok:aU)(nm:aE)(a:AA):Rd (AV×az (aE×eP)):=
 match a with
 | .i k n=> .ret (.i k n,[])| .b x=> .ret (.b x,[])| .s x=> .ret (.s x,[])| .nl=> .ret (.nl,[])
 | .sh e xs=>bif ok then .ret (.sh e xs,[])else .fail
 | .ow e ex xs=>bif ex||ok then(fresh nm).bind λ_=> .ret (.own nm,[(c9 nm, .o (.row e ex xs))])else .fail
 |_=> .fail
def Bz(ok:aU):aE->az AA->Rd (az AV×az (aE×eP))
 |_,[]=> .ret ([],[])
 |nm,a::r=>(rQ ok nm a).bind λ(v,w)=>(Bz ok (nm+1) r).bind λ(vs,ws)=> .ret (v::vs,w++ws)
def Hh(ok:aU)(nm:aE)(a:fa):Rd ((aU×az AV)×az (aE×eP)):=
 match a with
 | .v agg xs=>(Bz ok nm xs).bind λ(vs,ws)=> .ret ((agg,vs),ws)
 | .pt xs=>(Bz ok nm xs).bind λ(vs,ws)=>(fresh (nm+30)).bind λ_=> .ret ((ak,[.bp (nm+30) 0]),ws++[(c9 (nm+30), .o (.box vs))])
 | .fb _=> .fail
def Cr(ok:aU):aE->az fa->Rd (az (aU×az AV)×az (aE×eP))
 |_,[]=> .ret ([],[])
 |nm,a::r=>(Hh ok nm a).bind λ(v,w)=>(Cr ok (nm+40) r).bind λ(vs,ws)=> .ret (v::vs,w++ws)
def FV(ok:aU)(p:Pk)(a:AA):Rd (az (aE×eP)):=
 match p.src,a with
 | .no,_=> .ret []
 | .own nm e ex, .kp xs=>bif ex||ok then .ret [(c9 nm, .o (.row e ex xs))]else .fail
 | .own nm _ _, .nl=> .ret [(c9 nm, .o .dead)]
 |_,_=> .fail
def Mf(ok:aU):az Pk->az AA->Rd (az (aE×eP))
 |[],_=> .ret []
 |p::r,l=>(FV ok p (l.headD .nl)).bind λw=>(Mf ok r l.tail).bind λws=> .ret (w++ws)
def Da(ok:aU)(nm:aE)(p:Pk)(v:AV)(a:AA):Rd (AV×az (aE×eP)):=
 match p.src,a with
 | .own n e ex, .kp xs=>bif ex||ok then .ret (v,[(c9 n, .o (.row e ex xs))])else .fail
 | .own n _ _,a=>(rQ ok nm a).bind λ(v,w)=> .ret (v,(c9 n, .o .dead)::w)
 | .no,a=>rQ ok nm a
def r_(ok:aU):aE->az Pk->az AV->az AA->Rd (az AV×az (aE×eP))
 |_,[],[],[]=> .ret ([],[])
 |nm,p::ps,v::vs,a::as=>(Da ok nm p v a).bind λ(v,w)=>(r_ ok (nm+1) ps vs as).bind λ(vs,ws)=> .ret (v::vs,w++ws)
 |_,_,_,_=> .fail
def Vb(ok:aU)(nm:aE)(p:Pa)(l:az AA):Rd (az (aE×eP)):=
 match p.box with
 |some (n,vs)=>(r_ ok nm p.cs vs l).bind λ(vs,ws)=> .ret (ws++[(c9 n, .o (.box vs))])
 |none=>Mf ok p.cs l
def Me(ok:aU):aE->az Pa->az (az AA)->Rd (az (aE×eP))
 |_,[],_=> .ret []
 |nm,p::r,l=>(Vb ok nm p (l.headD [])).bind λw=>(Me ok (nm+40) r l.tail).bind λws=> .ret (w++ws)
def sH:az (aU×az AV)->SV
 |[(agg,xs)]=> .v agg xs
 |l=> .kq l
def nE:fa->aE| .v _ xs=>xs.length| .pt xs=>xs.length| .fb _=>0
def Ts:az aE->Rd (az (aE×eP))
 |[]=> .ret []
 |n::r=>(jN n).bind λ
  | .row e _ xs=>(Ts r).bind λws=> .ret ((c9 n, .o (.fW e xs))::ws)
  |_=> .fail
def Hn(E:fT)(nm:aE)(o:fu)(f:aE)(args:az dy)(Rg:aA (az aE))(iW:az (az CV)):Rd tc:=
 (SW E f Rg 0 args).bind λps=>
  bif tU (ps.flatMap (·.uK))&&rO (ps.flatMap (·.uK)) (ps.flatMap (·.nP))then
   match E.call f (ps.map (·.arg)++iW.map fa.fb)with
   |some (c,r)=>bif fJ ps.length 400&&(r.rs.all λa=>fJ (nE a) 30)&&(r.outs.all λa=>fJ a.length 100)then(Ts (bif E.tk nm then ps.flatMap (·.nP)else [])).bind λw0=>
    (Me (E.tk nm||(ps.flatMap (·.nP)).isEmpty) (nm+400) ps r.outs).bind λw1=>(Cr (E.tk nm||(ps.flatMap (·.nP)).isEmpty) (nm+1) r.rs).bind λ(vs,w2)=>
    bif tU ((w1++w2).map (·.1))then .ret ⟨c,w0++(w1++w2)++dw o (sH vs)⟩else .fail else .fail
   |none=> .fail
  else .fail
def Rd.or{α:Type}:Rd α->Rd α->Rd α
 | .ret a,_=> .ret a
 | .fail,y=>y
 | .get k f,y=> .get k λc=>(f c).or y
def Nz(E:fT)(nm:aE)(o:fu)(f:aE)(args:az dy)(Rg:az aE)(iW:az (az CV)):Rd tc:=
 (Hn E nm o f args aj iW).or (Hn E nm o f args (ah Rg) iW)
def CU(E:fT)(o:fu)(f n i j:aE)(y:dy):Rd tc:=
 (C8 y).bind λ(k,m)=>(jN n).bind λ
  | .row e ai xs=>(s6 E e).bind λte=>match te.ks[j]? with
   |some (.l e2)=>match E.call f [.v ak [.ow e2 ai (iX (ar xs i j))], .v ak [.i k m]]with
    |some (c,r)=>match r.rs,r.outs with
     |[.v ak [.i k2 m2]],[[.kp ys]]=> .ret ⟨c,(c9 n, .o (.row e ai (eC xs i j [.l e2 ys])))::dw o (.v ak [.i k2 m2])⟩
     |_,_=> .fail
    |none=> .fail
   |_=> .fail
  |_=> .fail
def S5:az dy->Rd (az (az CV)×az (aE×eP))
 |[]=> .ret ([],[])
 |x::r=>(rZ x).bind λ
  | .bp nm 0=>(jN nm).bind λ
   | .box xs=>(afl xs).bind λcs=>(S5 r).bind λ(l,ws)=> .ret (cs::l,(c9 nm, .o (.oe cs))::ws)
   | .oe cs=>(S5 r).bind λ(l,ws)=> .ret (cs::l,ws)
   |_=> .fail
  |_=> .fail
where afl:az AV->Rd (az CV)
 |[]=> .ret []
 |a::r=>(afl r).bind λl=>match a with
  | .i k n=> .ret (.i k n::l)| .b x=> .ret (.b x::l)| .s x=> .ret (.s x::l)
  | .sh e xs=> .ret (.l e xs::l)
  |_=> .fail
def mo(E:fT)(nm:aE)(o:fu):Rd tc:=
 match o.op with
 | .move x| .assign x=>(H3 x).bind λv=>val o v
 | .nilCheck x=>(rZ x).bind λp=>match p with
  | .bp nm j=>val o (.v ak [.bp nm j])
  | .rp nm i j=>val o (.v ak [.rp nm i j])
  |_=> .fail
 | .pick c a b=>(rZ c).bind λc=>(H3 a).bind λa=>(H3 b).bind λb=>
  match c,a,b with
  | .b c, .v ak [.b p], .v ak [.b q]=>Af o (.b (bif c then p else q))
  | .b c, .kq [],b=> .ret ⟨!c,dw o b⟩
  | .b c,a, .kq []=> .ret ⟨c,dw o a⟩
  |_,_,_=> .fail
 | .alloc t=>(s6 E t).bind λti=>bif L5 ti.ks then(fresh nm).bind λ_=> .ret ⟨ai,(c9 nm, .o (.box (ti.ks.map DH)))::dw o (.v ak [.bp nm 0])⟩else .fail
 | .box t x=>(H3 x).bind λ
  | .v _ xs=>(fresh nm).bind λ_=> .ret ⟨ai,(c9 nm, .o (.box xs))::dw o (.v ak [.bp nm 0])⟩
  |_=> .fail
 | .build t ps=>(s6 E t).bind λti=>bif L5 ti.ks&&ti.agg then(H4 E t ps.toList).bind λl=>val o (.v ai (NP (ti.ks.map DH) l))else .fail
 | .buildSlice t n ps=>(s6 E t).bind λti=>match ti.agg,ti.ks with
  |false,[.l e]=>(s6 E e).bind λte=>bif L5 te.ks then(NK ps.toList).bind λex=>(Lj (ex&&flat E te.ks) te.ks ps.toList (aP te.ks n)).bind λ(xs,w)=>(fresh nm).bind λ_=>
   .ret ⟨fJ (n*te.ks.length) 16777216&&tU (w.map (·.1)),w++(c9 nm, .o (.row e (ex&&flat E te.ks) xs))::dw o (.v ak [.own nm])⟩else .fail
  |_,_=> .fail
 | .load t p=>(s6 E t).bind λti=>(rZ p).bind λp=>(tP E ti p).bind λxs=>val o (.v ti.agg xs)
 | .store t p x=>(s6 E t).bind λti=>(rZ p).bind λp=>(H3 x).bind λ
  | .v _ ys=>bif bF ys.length ti.ks.length then(Wn E p ys).bind λw=> .ret ⟨ai,w++dw o .un⟩else .fail
  |_=> .fail
 | .fieldAddr t p f=>(rZ p).bind λp=>(Tj E t f p).bind λq=>Af o q
 | .field t x f=>(H3 x).bind λ
  | .v ai xs=>match E.fo t f with
   |some (j,n)=>bif E.To t f&&bF n 1 then(match xs.drop j with|a::_=>Af o a|[]=> .fail)else .fail
   |none=> .fail
  |_=> .fail
 | .indexAddr t x i=>(p_ E t).bind λ
  | .l e=>(rZ x).bind λx=>(C8 i).bind λ(_,n)=>(TQ E e x n).bind λ(c,q)=>My o c q
  |_=> .fail
 | .index t x i=>(p_ E t).bind λk=>(rZ x).bind λx=>(C8 i).bind λ(_,n)=>match k,x with
  | .s, .s a=>My o (decide (0<=n)&&decide (n<(a.size:ax))) (.i .u8 ((a.data.getD n.toNat 0).toNat:ax))
  |_,_=> .fail
 | .binOp op t x y _=>(H3 x).bind λx=>(H3 y).bind λy=>(afj E t op x y).bind λ(c,v)=>My o c v
 | .unOp op _ x=>(rZ x).bind λx=>match op,x with
  | .not, .b x=>Af o (.b (!x))
  | .neg, .i k n=>Af o (.i k (k.wrap (0-n)))
  |_,_=> .fail
 | .convert src dst x=>(p_ E src).bind λks=>(p_ E dst).bind λkd=>(rZ x).bind λx=>match kd,ks,x with
  | .i k, .i _, .i _ n=>Af o (.i k (k.wrap n))
  | .s, .s, .s a=>Af o (.s a)
  | .s, .l e', .nl=>(s6 E e').bind λte=>bif u8s te.ks&& !te.agg then Af o (.s ⟨#[]⟩)else .fail
  | .s, .l e',a=>(mM E a).bind λ(e,xs)=>(s6 E e).bind λte=>bif bF e e'&&u8s te.ks&& !te.agg then My o (decide (xs.length<=4611686018427387904)) (.s (bytesOf xs))else .fail
  |_,_,_=> .fail
 | .makeSlice t l c=>(C8 l).bind λ(_,n)=>(C8 c).bind λ(_,m)=>(s6 E t).bind λti=>match ti.agg,ti.ks with
  |false,[.l e]=>(s6 E e).bind λte=>bif L5 te.ks&&flat E te.ks then(fresh (bif plain te.ks then nm else nm+999)).bind λ_=> .ret ⟨decide (0<=n)&&decide (n=m)&&cw n.toNat te.bytes,(c9 (bif plain te.ks then nm else nm+999), .o (.row e ai (aP te.ks n.toNat)))::dw o (.v ak [.own (bif plain te.ks then nm else nm+999)])⟩else .fail
  |_,_=> .fail
 | .slice t x lo hi mx=>match mx with
  |some _=> .fail
  |none=>(p_ E t).bind λk=>(rZ x).bind λx=>(Mp E k x lo hi).bind λ(c,v)=>My o c v
 | .extract x i=>(H3 x).bind λ
  | .kq l=>match l[i]? with|some (agg,xs)=>val o (.v agg xs)|none=> .fail
  |_=> .fail
 | .makeFunc (.func f) first iW=>bif first.isEmpty then(S5 iW.toList).bind λ(l,ws)=> .ret ⟨ai,ws++dw o (.v ak [.fn f l])⟩else .fail
 | .call c=>match c.callee with
  | .builtin .len=>match c.args.toList,c.argTypes.toList with
   |[x],[t]=>(p_ E t).bind λk=>(rZ x).bind λx=>(agt E k x).bind λn=>Af o (.i .i64 n)
   |_,_=> .fail
  | .builtin .cap=>match c.args.toList,c.argTypes.toList with
   |[x],[t]=>(p_ E t).bind λ| .l _=>((rZ x).bind λ| .nl=>Af o (.i .i64 0)|_=> .fail)|_=> .fail
   |_,_=> .fail
  | .builtin .min=>match c.args.toList with
   |x::r=>(C8 x).bind λ(k,n)=>(xY ak r k n).bind λv=>Af o v
   |_=> .fail
  | .builtin .max=>match c.args.toList with
   |x::r=>(C8 x).bind λ(k,n)=>(xY ai r k n).bind λv=>Af o v
   |_=> .fail
  | .builtin .clear=>match c.args.toList with
   |[x]=>match c.argTypes.toList with
    |[t]=>(p_ E t).bind λ| .l e=>((rZ x).bind λx=>(S9 E e x).bind λw=> .ret ⟨ai,w++dw o (.kq [])⟩)|_=> .fail
    |_=> .fail
   |_=> .fail
  | .builtin .append=>match c.args.toList,c.argTypes.toList with
   |[s,x],[t,u]=>(p_ E u).bind λku=>(rZ s).bind λs=>(rZ x).bind λx=>match ku,x with
    | .i _, .i _ n=>(WE E nm t s n).bind λ(b,v,w)=> .ret ⟨b,w++dw o (.v ak [v])⟩
    | .l _,x=>(He E nm t s x).bind λ(b,v,w)=> .ret ⟨b,w++dw o (.v ak [v])⟩
    | .s,x=>(He E nm t s x).bind λ(b,v,w)=> .ret ⟨b,w++dw o (.v ak [v])⟩
    |_,_=> .fail
   |_,_=> .fail
  | .value f=>(rZ f).bind λ
   | .fn f iW=>match c.args.toList,iW with
    |[x,y],[]=>(H3 x).bind λ
     | .v ak [.inn n i j]=>bif E.mode f 0 then CU E o f n i j y else Nz E nm o f c.args.toList c.argTypes.toList iW
     |_=>Nz E nm o f c.args.toList c.argTypes.toList iW
    |_,_=>Nz E nm o f c.args.toList c.argTypes.toList iW
   |_=> .fail
  |_=> .fail
 |_=> .fail
inductive Ex where
 |normal|exit (id:aE)|ret
structure Lg where
 rs:az aE
 ws:az aE
def NU{R:Type}(a:AV)(f:AV->R):R:=
 match a with
 | .i k n=>f (.i k n)| .b x=>f (.b x)| .s x=>f (.s x)| .sh e xs=>f (.sh e xs)| .nl=>f .nl| .own n=>f (.own n)| .vw n lo hi=>f (.vw n lo hi)
 | .bp n j=>f (.bp n j)| .rp n i j=>f (.rp n i j)| .sp e xs i j=>f (.sp e xs i j)| .inn n i j=>f (.inn n i j)| .ip n i j i2 j2=>f (.ip n i j i2 j2)| .fn g iW=>f (.fn g iW)| .fp xs j=>f (.fp xs j)
def Hu{R:Type}(a:aU)(f:aU->R):R:=match a with|true=>f ai|false=>f ak
def pz{R:Type}:az AV->(az AV->R)->R
 |[],f=>f []|a::r,f=>NU a λa=>pz r λr=>f (a::r)
def Hw{R:Type}:az (aU×az AV)->(az (aU×az AV)->R)->R
 |[],f=>f []|(g,xs)::r,f=>Hu g λg=>pz xs λxs=>Hw r λr=>f ((g,xs)::r)
def Hv{R:Type}(v:SV)(f:SV->R):R:=
 match v with
 | .v g xs=>Hu g λg=>pz xs λxs=>f (.v g xs)| .kq l=>Hw l λl=>f (.kq l)| .un=>f .un
def Lv{R:Type}(o:Obj)(f:Obj->R):R:=
 match o with
 | .box xs=>pz xs λxs=>f (.box xs)| .oe cs=>f (.oe cs)| .row e ex xs=>Hu ex λex=>f (.row e ex xs)| .fW e xs=>f (.fW e xs)| .dead=>f .dead
def Lu{R:Type}(c:eP)(f:eP->R):R:=
 match c with
 | .v x=>Hv x λx=>f (.v x)| .o x=>Lv x λx=>f (.o x)| .j9=>f .j9
def CM{R:Type}:az (aE×eP)->(az (aE×eP)->R)->R
 |[],f=>f []|(k,c)::r,f=>Lu c λc=>CM r λr=>f ((k,c)::r)
theorem Lt{R:Type}(a:AV)(f:AV->R):NU a f=f a:=by cases a<;>rfl
theorem zK{R:Type}(a:aU)(f:aU->R):Hu a f=f a:=by cases a<;>rfl
theorem nZ{R:Type}:∀(l:az AV) (f:az AV->R),pz l f=f l
 |[],_=>rfl
 |a::r,f=>by simp only[pz,Lt,nZ r]
theorem Fy{R:Type}:∀(l:az (aU×az AV)) (f:az (aU×az AV)->R),Hw l f=f l
 |[],_=>rfl
 |(g,xs)::r,f=>by simp only[Hw,zK,nZ,Fy r]
theorem Lw{R:Type}(v:SV)(f:SV->R):Hv v f=f v:=by cases v<;>simp only[Hv,zK,nZ,Fy]
theorem PG{R:Type}(v:Obj)(f:Obj->R):Lv v f=f v:=by cases v<;>simp only[Lv,zK,nZ]
theorem PF{R:Type}(v:eP)(f:eP->R):Lu v f=f v:=by cases v<;>simp only[Lu,Lw,PG]
theorem FA{R:Type}:∀(l:az (aE×eP)) (f:az (aE×eP)->R),CM l f=f l
 |[],_=>rfl
 |(k,c)::r,f=>by simp only[CM,PF,FA r]
def ops{R:Type}(E:fT)(all:dt fu)(oj:aE):aE->az fu->St->az Lg->(St->az Lg->aA R)->aA R
 |_,[],σ,lg,K=>K σ lg
 |i,o::rest,σ,lg,K=>match o.guard with
  |none=>match (mo E ((oj+1)*1000000+i*1000) o).run σ []with
   |some (e,l)=>bif e.cond then CM e.ws (λws=>ops E all oj (i+1) rest (wr σ ws) (⟨l,ws.map (·.1)⟩::lg) K)else aj
   |none=>aj
  |some (g,want)=>match (all.getD g default).dst with
   |none=>aj
   |some d=>match σ (qv d)with
    | .v (.v ak [.b x])=>
     let perform:=λy=>match (mo E ((oj+1)*1000000+i*1000) o).run (pS σ (qv d) (.v (.v ak [.b y]))) []with
      |some (e,l)=>bif e.cond then CM e.ws (λws=>ops E all oj (i+1) rest (wr (pS σ (qv d) (.v (.v ak [.b y]))) ws) (⟨qv d::l,ws.map (·.1)⟩::lg) K)else aj
      |none=>aj
     let skip:=λy=>ops E all oj (i+1) rest (wr (pS σ (qv d) (.v (.v ak [.b y]))) (dw o (.kq []))) (⟨[qv d],(dw o (.kq [])).map (·.1)⟩::lg) K
     bif x then(bif want then perform ai else skip ai)else(bif want then skip ak else perform ak)
    | .v (.kq [])=>ops E all oj (i+1) rest (wr σ (dw o (.kq []))) (⟨[qv d],(dw o (.kq [])).map (·.1)⟩::lg) K
    |_=>aj
def ddA(acc:az aE):az aE->az aE
 |[]=>acc|n::r=>bif mS n acc then ddA acc r else ddA (n::acc) r
def m_{R:Type}:az aE->(az aE->R)->R
 |[],f=>f []|n::r,f=>m_ r λr=>f (n::r)
def BJ{R:Type}:az (az aE)->(az (az aE)->R)->R
 |[],f=>f []|n::r,f=>m_ n λn=>BJ r λr=>f (n::r)
theorem o0{R:Type}:∀(l:az aE) (f:az aE->R),m_ l f=f l
 |[],_=>rfl
 |n::r,f=>by simp only[m_,o0 r]
theorem CL{R:Type}:∀(l:az (az aE)) (f:az (az aE)->R),BJ l f=f l
 |[],_=>rfl
 |n::r,f=>by simp only[BJ,o0,CL r]
theorem Hp:∀(l acc:az aE) (x:aE),x∈ddA acc l->x∈acc\/x∈l
 |[],_,_,h=> .inl h
 |n::r,acc,x,h=>by
  unfold ddA at h;cases hb:mS n acc with
  |true=>
   rw[hb]at h;rcases Hp r acc x h with h|h
   ·exact .inl h
   ·exact .inr (c7 _ h)
  |false=>
   rw[hb]at h;rcases Hp r (n::acc) x h with h|h
   ·rcases cB.1 h with rfl|h
    ·exact .inr dv
    ·exact .inl h
   ·exact .inr (c7 _ h)
def Hd:az (az aE)->az fu->az (az aE)
 |acc,[]=>acc
 |acc,o::r=>m_ (ddA [] (o.after.toList.flatMap λe=>bif mW .any e then e.on::acc.getD e.on []else [])) λx=>Hd (acc++[x]) r
def Ka:aE->az fu->aU
 |_,[]=>ai
 |i,o::r=>(o.after.toList.all λe=> !Region.binds .any e||Nat.blt e.on i)&&Ka (i+1) r
def CB(a b:Lg):aU:= !(rO a.ws b.ws&&rO a.ws b.rs&&rO b.ws a.rs)
def BC(an:az aE)(j:aE)(a:Lg):aE->az Lg->aU
 |_,[]=>ai
 |i,b::r=>(mS i an|| !CB a b)&&BC an j a (i+1) r
def calm:aE->az (az aE)->az Lg->az Lg->aU
 |_,_,_,[]=>ai
 |j,an,done,a::r=>BC (an.getD j []) j a 0 done&&calm (j+1) an (done++[a]) r
def BI{R:Type}:az Lg->(az Lg->R)->R
 |[],f=>f []|a::r,f=>m_ a.rs λrs=>m_ a.ws λws=>BI r λr=>f (⟨rs,ws⟩::r)
theorem CK{R:Type}:∀(l:az Lg) (f:az Lg->R),BI l f=f l
 |[],_=>rfl
 |n::r,f=>by simp only[BI,o0,CK r]
def NA(an:az (az aE))(l:az Lg):aU:=BJ an λan=>BI l λl=>calm 0 an [] l
theorem S4(an:az (az aE))(l:az Lg):NA an l=calm 0 an [] l:=by simp only[NA,CL,CK]
def bR:AV->az aE
 | .own n=>[n]| .vw n _ _=>[n]| .bp n _=>[n]| .rp n _ _=>[n]| .inn n _ _=>[n]| .ip n _ _ _ _=>[n]|_=>[]
def cO:SV->az aE
 | .v _ xs=>xs.flatMap bR| .kq l=>l.flatMap λ(_,xs)=>xs.flatMap bR| .un=>[]
def XG:az aE->az aE->az aE
 |l,[]=>l
 |l,n::r=>m_ (bif mS n l then l else l++[n]) λl=>XG l r
def slot(σ:St)(n:aE):SV:=match σ (qv n)with| .v x=>x|_=> .un
def ak9(σ:St)(nm:aE):az aE:=match σ (c9 nm)with| .o (.box xs)=>xs.flatMap bR|_=>[]
def idx(n:aE):aE->az aE->aA aE
 |_,[]=>aj|i,m::r=>bif bF n m then ah i else idx n (i+1) r
def enc(f:aU)(k:aE):aE:=bif f then k*1000+999 else k
def wx(l:az aE)(n:aE):aA aE:=bif fJ 900000000 n then(bif mS n l then ah n else aj)else(match idx n 0 l with|some k=>ah (enc (zP n) k)|none=>aj)
def qb(l:az aE)(a:AV):AV:=
 match a with
 | .own n=>match wx l n with|some k=> .own k|none=> .nl
 | .vw n lo hi=>match wx l n with|some k=> .vw k lo hi|none=> .nl
 | .bp n j=>match wx l n with|some k=> .bp k j|none=> .nl
 | .rp n i j=>match wx l n with|some k=> .rp k i j|none=> .nl
 | .inn n i j=>match wx l n with|some k=> .inn k i j|none=> .nl
 | .ip n i j i2 j2=>match wx l n with|some k=> .ip k i j i2 j2|none=> .nl
 |a=>a
def zR(l:az aE)(ns:az aE):aU:=ns.all λn=>mS n l
def FX(l:az aE)(v:SV):SV:=
 bif zR l (cO v)then(match v with
 | .v agg xs=> .v agg (xs.map (qb l))| .kq r=> .kq (r.map λ(g,xs)=>(g,xs.map (qb l)))| .un=> .un)else .un
def Qs(l:az aE)(o:eP):eP:=
 match o with
 | .o (.box xs)=>bif zR l (xs.flatMap bR)then .o (.box (xs.map (qb l)))else .o .dead
 | .o x=> .o x
 |_=> .o .dead
def fM:az (aE×eP)->St
 |[],_=> .j9
 |(k,c)::r,n=>bif bF n k then c else fM r n
def wu(σ:St)(l:az aE):az aE->az (aE×eP)
 |[]=>[]|n::r=>match wx l n with|some k=>(c9 k,Qs l (σ (c9 n)))::wu σ l r|none=>wu σ l r
def Lc(keep:az aE)(σ:St):az aE:=
 m_ (XG [] (keep.flatMap λn=>cO (slot σ n))) λl0=>m_ (XG l0 (l0.flatMap (ak9 σ))) λl1=>XG l1 (l1.flatMap (ak9 σ))
def Lb(keep:az aE)(σ:St)(l:az aE):az (aE×eP):=
 bif fJ l.length 900 then keep.map (λn=>(qv n, .v (FX l (slot σ n))))++wu σ l l else []
def YC(x:aE):aU:=fJ 1000000000000000 x
def acC(x:aE):aE:=(x/1000000)%1000000000
def T9(x:aE):aE:=(x/1000)%1000
def kTy(x:aE):aE:=x%1000
def kNm(x:aE):aE:=800000000+((x/1000)%1000000)*100
def AE{α:Type}(x:aE)(σ:St)(f:St->α):α:=
 match slot σ (acC x)with
 | .v ak [.bp nm 0]=>match σ (c9 nm),σ (c9 (kNm x))with
  | .o (.box xs), .j9=>match xs[T9 x]? with
   |some .nl=>pz (xs.set (T9 x) (.own (kNm x))) λys=>f (pS (pS σ (c9 nm) (.o (.box ys))) (c9 (kNm x)) (.o (.row (kTy x) ai [])))
   |_=>f σ
  |_,_=>f σ
 |_=>f σ
def Oc{α:Type}:az aE->St->(St->α)->α
 |[],σ,f=>f σ
 |x::r,σ,f=>bif YC x then AE x σ (λσ=>Oc r σ f)else Oc r σ f
def Ld(keep:az aE)(σ:St):az (aE×eP):=Oc keep σ λσ=>m_ (keep.filter λx=> !YC x) λkeep=>m_ (Lc keep σ) λl=>Lb keep σ l
def canon(keep:az aE)(σ:St):St:=fM (Ld keep σ)
def fT.AB(E:fT)(n:aE):az aE:=(E.keep n).filter λx=>bif YC x then(match E.ty (kTy x)with|some _=>ai|none=>ak)else ai
def gK:Code->aE
 | .region id _ _=>id| .seq a _=>gK a| .block _ c=>gK c| .scope c=>gK c|_=>0
def FK{R:Type}(g:St->aA R)(cn:St->St)(K:Ex->St->aA R):Ex->St->aA R
 | .normal,σ=>g (cn σ)
 |e,σ=>K e (cn σ)
def iter{R:Type}(f:St->(Ex->St->aA R)->aA R)(cn:St->St):aE->St->(Ex->St->aA R)->aA R
 |0,_,_=>aj
 |n+1,σ,K=>f σ (FK (λs=>iter f cn n s K) cn K)
theorem P5{R:Type}(f:St->(Ex->St->aA R)->aA R)(cn:St->St)(n:aE)(σ:St)(K:Ex->St->aA R):iter f cn (n+1) σ K=f σ (FK (λs=>iter f cn n s K) cn K):=rfl
abbrev It(R:Type):=aE->(St->(Ex->St->aA R)->aA R)->(St->St)->az (aE×eP)->(Ex->St->aA R)->aA R
def ayy{R:Type}(n:aE):It R:=λ_ f cn L K=>iter f cn n (fM L) K
def axi{R:Type}(f:St->(Ex->St->aA R)->aA R)(K:Ex->St->aA R):Ex->St->aA R
 | .normal,σ=>f σ K
 |e,σ=>K e σ
def asY{R:Type}(id:aE)(K:Ex->St->aA R):Ex->St->aA R
 | .exit j,σ=>bif bF j id then K .normal σ else K (.exit j) σ
 |e,σ=>K e σ
def tF{R:Type}(E:fT)(it:It R):Code->St->(Ex->St->aA R)->aA R
 | .skip,σ,K=>K .normal σ
 | .region id os draw,σ,K=>ops E os id 0 os.toList σ [] λσ lg=>bif !draw||(Ka 0 os.toList&&NA (Hd [] os.toList) lg.reverse)then K .normal σ else aj
 | .seq a b,σ,K=>tF E it a σ (axi (tF E it b) K)
 | .cond c a b,σ,K=>match c with
  | .tmp t=>match σ (qv t)with
   | .v (.v ak [.b x])=>bif x then(tF E it a (pS σ (qv t) (.v (.v ak [.b ai]))) K)else(tF E it b (pS σ (qv t) (.v (.v ak [.b ak]))) K)
   |_=>aj
  |_=>aj
 | .block id c,σ,K=>tF E it c σ (asY id K)
 | .loop c,σ,K=>it (gK c) (tF E it c) (canon (E.AB (gK c))) (Ld (E.AB (gK c)) σ) K
 | .exit id,σ,K=>K (.exit id) σ
 | .ret,σ,K=>K .ret σ
 |_,_,_=>aj
def jZ:Code->az Code
 | .seq a b=>jZ a++jZ b
 | .cond _ a b=>jZ a++jZ b
 | .block _ c=>jZ c
 | .loop c=>c::jZ c
 |_=>[]
def CW(oj:aE):Code->aA Code
 | .seq a b=>match CW oj a with|some r=>ah r|none=>CW oj b
 | .cond _ a b=>match CW oj a with|some r=>ah r|none=>CW oj b
 | .block _ c=>CW oj c
 | .loop c=>bif bF (gK c) oj then ah c else CW oj c
 |_=>aj
def bT(F:Func)(oj:aE):Code:=((F.body.bind (CW oj)).getD .skip)
end Go.FG

namespace Go.FG
def dU(p j:aE):aE:=900000000+p*1000+j
def lJ(nm:aE)(a:AA):AV:=
 match a with
 | .i k n=> .i k n| .b x=> .b x| .s x=> .s x| .sh e xs=> .sh e xs| .nl=> .nl
 | .ow _ _ _=> .own nm| .kp _=> .nl| .fn f iW=> .fn f iW
def FJ(nm:aE)(a:AA):az (aE×eP):=match a with| .ow e ex xs=>[(c9 nm, .o (.row e ex xs))]|_=>[]
def gD(nm:aE):az AA->az AV
 |[]=>[]|a::r=>lJ nm a::gD (nm+1) r
def tL(nm:aE):az AA->az (aE×eP)
 |[]=>[]|a::r=>FJ nm a++tL (nm+1) r
def tM(p:aE)(a:fa):SV:=
 match a with
 | .v agg xs=> .v agg (gD (dU p 0) xs)
 | .pt _=> .v ak [.bp (dU p 900) 0]
 | .fb xs=> .v ak [.fp xs 0]
def vA(p:aE)(a:fa):az (aE×eP):=
 match a with
 | .v _ xs=>tL (dU p 0) xs
 | .pt xs=>(c9 (dU p 900), .o (.box (gD (dU p 0) xs)))::tL (dU p 0) xs
 | .fb _=>[]
def LQ:aE->az fa->az (aE×eP)
 |_,[]=>[]|p,a::r=>(qv p, .v (tM p a))::vA p a++LQ (p+1) r
def inj(args:az fa):St:=fM (LQ 0 args)
def Ay(E:fT)(e:aE):aU:=match E.ty e with|some _=>ai|none=>ak
def Ax(E:fT)(om:Om)(σ:St)(k:Ck)(a:AV):aA (AA×az aE×az aE):=
 match a with
 | .i k n=>ah (.i k n,[],[])| .b x=>ah (.b x,[],[])| .s x=>ah (.s x,[],[])
 | .sh e xs=>match om with| .own _=>aj|_=>ah (.sh e xs,[],[])
 | .nl=>match om with
  | .own e=>bif Ay E e then ah (.ow e ai [],[],[])else aj
  | .sh e=>ah (.sh e [],[],[])
  | .nat=>match k with| .l e=>bif Ay E e then ah (.ow e ai [],[],[])else aj|_=>ah (.nl,[],[])
 | .own nm=>match σ (c9 nm)with
  | .o (.row e ex xs)=>match om with| .sh _=>ah (.sh e xs,[],[nm])|_=>ah (.ow e ex xs,[nm],[])
  | .o (.fW e xs)=>match om with| .own _=>aj|_=>ah (.sh e xs,[],[])
  |_=>aj
 | .vw nm lo hi=>match σ (c9 nm)with
  | .o (.row e ex xs)=>match om with| .sh _=>ah (.sh e (eW xs lo hi),[],[nm])|_=>ah (.ow e ex (eW xs lo hi),[nm],[])
  | .o (.fW e xs)=>match om with| .own _=>aj|_=>ah (.sh e (eW xs lo hi),[],[])
  |_=>aj
 |_=>aj
def tG(E:fT)(q:aE)(σ:St):aE->az Ck->az AV->aA (az AA×az aE×az aE)
 |_,_,[]=>ah ([],[],[])
 |j,ks,a::r=>match Ax E (E.om q j) σ (ks.headD .o) a,tG E q σ (j+1) ks.tail r with
  |some (x,l,m),ah (xs,ls,ms)=>ah (x::xs,l++ls,m++ms)
  |_,_=>aj
def NR(E:fT)(q:aE)(σ:St)(ks:az Ck)(v:SV):aA (fa×az aE×az aE):=
 match v with
 | .v ak [.bp nm 0]=>match σ (c9 nm)with
  | .o (.box xs)=>match tG E q σ 0 [] xs with|some (l,ns,ms)=>ah (.pt l,nm::ns,ms)|none=>aj
  |_=>aj
 | .v agg xs=>match tG E q σ 0 ks xs with|some (l,ns,ms)=>ah (.v agg l,ns,ms)|none=>aj
 |_=>aj
def Vv(E:fT)(q:aE)(σ:St)(r:ResultVar)(t:aE):aA (fa×az aE×az aE):=
 match E.ty t with
 |none=>aj
 |some ti=>match r with
  | .tmp s=>NR E q σ ti.ks (slot σ s)
  | .cell a t'=>match E.ty t',slot σ a with
   |some Ws, .v ak [.bp nm 0]=>match σ (c9 nm)with| .o (.box xs)=>bif bF xs.length Ws.ks.length then NR E q σ ti.ks (.v Ws.agg xs)else aj|_=>aj
   |_,_=>aj
def Dj(E:fT)(σ:St):aE->az ResultVar->az aE->aA (az fa×az aE×az aE)
 |_,[],_=>ah ([],[],[])
 |q,r::rs,ts=>match Vv E q σ r (ts.headD 0),Dj E σ (q+1) rs ts.tail with
  |some (a,l,m),ah (as,ls,ms)=>ah (a::as,l++ls,m++ms)
  |_,_=>aj
def Kp(a b:aU):aU:=bif a then b else !b
def nG(σ:St)(tk:az aE)(nm:aE)(a:AA):AA×az aE:=
 match a with
 | .ow e ex _=>bif mS nm tk then(.nl,[])else(match σ (c9 nm)with| .o (.row e' uG xs)=>bif bF e e'&&Kp ex uG then(.kp xs,[nm])else(.nl,[])|_=>(.nl,[]))
 |_=>(.nl,[])
def p8(σ:St)(tk:az aE)(nm:aE):az AA->az AA×az aE
 |[]=>([],[])|a::r=>((nG σ tk nm a).1::(p8 σ tk (nm+1) r).1,(nG σ tk nm a).2++(p8 σ tk (nm+1) r).2)
def abt(E:fT)(om:Om)(σ:St)(nm:aE)(b:AA)(a:AV):aA (AA×az aE×az aE):=
 match om,b,a with
 | .nat, .ow e ex _, .own n=>bif bF n nm then(match σ (c9 n)with| .o (.row e' uG xs)=>bif bF e e'&&Kp ex uG then ah (.kp xs,[n],[])else aj|_=>aj)else Ax E om σ .o a
 |_,_,a=>Ax E om σ .o a
def Hi(E:fT)(q:aE)(σ:St):aE->az AA->az AV->aA (az AA×az aE×az aE)
 |_,_,[]=>ah ([],[],[])
 |j,bs,a::r=>match abt E (E.om q j) σ (dU q j) (bs.headD .nl) a,Hi E q σ (j+1) bs.tail r with
  |some (x,l,m),ah (xs,ls,ms)=>ah (x::xs,l++ls,m++ms)
  |_,_=>aj
def Tw:az AA->aU
 |[]=>ak| .ow _ _ _::_=>ai|_::r=>Tw r
def Dc(E:fT)(σ:St)(tk:az aE):aE->az fa->aA (az (az AA)×az aE×az aE)
 |_,[]=>ah ([],[],[])
 |p,a::r=>match Dc E σ tk (p+1) r with
  |none=>aj
  |some (l,ns,ms)=>match a with
   | .v _ xs=>bif Tw xs then ah ((p8 σ tk (dU p 0) xs).1::l,(p8 σ tk (dU p 0) xs).2++ns,ms)else ah ([]::l,ns,ms)
   | .pt xs=>match σ (c9 (dU p 900))with
    | .o (.box vs)=>match Hi E p σ 0 xs vs with|some (as,ns',ms')=>ah (as::l,dU p 900::(ns'++ns),ms'++ms)|none=>aj
    |_=>aj
   | .fb _=>ah ([]::l,ns,ms)
def uF:az (az AA)->az (az AA)
 |[]=>[]
 |x::r=>match x,uF r with|[],[]=>[]|x,r=>x::r
def fin(E:fT)(F:Func)(args:az fa)(e:Ex)(σ:St):aA dq:=
 match e with
 | .exit _=>aj
 |_=>match Dj E σ 500 F.results.toList F.resultTypes.toList with
  |some (rs,tk,fz)=>match Dc E σ (tk++fz) 0 args with
   |some (outs,ns,ms)=>bif tU (tk++ns)&&rO (tk++ns) (fz++ms)&&fJ args.length 500&&(args.all λa=>fJ (nE a) 100)&&(rs.all λa=>fJ (nE a) 100)&&(outs.all λa=>fJ a.length 100)then ah ⟨rs,uF outs⟩else aj
   |none=>aj
  |none=>aj
def body(E:fT)(it:It dq)(F:Func)(args:az fa):aA dq:=
 match F.body with
 |some c=>tF E it c (inj args) (fin E F args)
 |none=>aj
end Go.FG

namespace Go.FG
structure Pl where
 nil:aU
 blk:aE
 off:aE
 cap:aE
 n:aE
 sz:aE
def l_(p:Pl):bn:=if p.nil=ai then .slice aj 0 0 else .slice (ah ⟨p.blk,p.off,aj⟩) p.n p.cap
def n8(w:bM)(b:aE)(vals:dt bn):Prop:=
 ∃t fr,w.heap[b]? =ah (.cells vals t fr)/\∀o,o<=vals.size->(decide (fr.1<=o)&&decide (o<fr.2))=ak
def QB:CV->bn
 | .i k n=> .int k n| .b x=> .bool x| .s x=> .string x| .l _ _=> .nilIface
def Ez(x:aq):Prop:=x.size<=4611686018427387904
def okC:CV->Prop
 | .s x=>Ez x|_=>True
def Sc(u:bn)(x:CV):Prop:=u=QB x/\okC x
structure eZ where
 P:aE->Pl
 G:aE->aE->aE->Pl
 K:aE->Prop
abbrev ad(b o:aE):Addr:=⟨b,o,aj⟩
inductive da (E:Tab) (w:bM) (K:aE->Prop):bn->CV->Prop
 |i (k n):da E w K (.int k n) (.i k n)
 |b (x):da E w K (.bool x) (.b x)
 |s (x) (h:Ez x):da E w K (.string x) (.s x)
 |nl (e A c):da E w K (.slice A 0 c) (.l e [])
 |l (e xs b o c ti) (U:aE->aE->bn) (ht:E.ty e=ah ti) (hc:xs.length<=c) (hm:c<=maxLen) (hK:K b) (hs:∀y∈xs,y.map CV.kd=ti.ks)
  (hcell:∀i j y x,xs[i]? =ah y->y[j]? =ah x->w.cell? (ad b (o+i*ti.ks.length+j))=ah (U i j))
  (gC:∀i j y x,xs[i]? =ah y->y[j]? =ah x->da E w K (U i j) x):da E w K (.slice (ah (ad b o)) xs.length c) (.l e xs)
theorem n8.cell{w:bM}{b:aE}{vals:dt bn}(h:n8 w b vals)(o:aE):w.cell? (ad b o)=vals[o]? :=by obtain⟨t,fr,h,_⟩:=h;simp[World.cell?,h]
theorem n8.lt{w:bM}{b:aE}{vals:dt bn}(h:n8 w b vals):b<w.heap.size:=by obtain⟨t,fr,h,_⟩:=h;exact(dV.1 h).1
theorem n8.free{w:bM}{b:aE}{vals:dt bn}(h:n8 w b vals){o:aE}(ho:o<vals.size):w.frozen? (ad b o)=false:=by obtain⟨t,fr,h,hf⟩:=h;have:=hf o (Nat.le_of_lt ho);simpa [World.frozen?,h]using this
theorem n8.frame{w w':bM}{b:aE}{vals:dt bn}(h:n8 w b vals)(e:w'.heap[b]? =w.heap[b]?):n8 w' b vals:=by obtain⟨t,fr,h,hf⟩:=h;exact⟨t,fr,e.trans h,hf⟩
theorem da.frame{E:Tab}{w w':bM}{K K':aE->Prop}{v:bn}{x:CV}(h:da E w K v x)(hw:∀b,K b->w'.heap[b]? =w.heap[b]?)(hK:∀b,K b->K' b):da E w' K' v x:=by
 induction h with
 |i=>exact .i _ _
 |b=>exact .b _
 |s x h=>exact .s _ h
 |nl=>exact .nl _ _ _
 |l e xs b o c ti U ht hc hm hKb hs hcell gC ih=>exact .l e xs b o c ti U ht hc hm (hK b hKb) hs (λi j y x h1 h2=>(uY (a:=ad b _) (hw b hKb)).trans (hcell i j y x h1 h2)) (λi j y x h1 h2=>ih i j y x h1 h2)
structure jl (w:bM) (p:Pl) (xs:aQ) (R:aE->aE->bn->CV->Prop):Prop where
 n:p.n=xs.length
 nil:p.nil=ai->xs=[]/\p.cap=0
 mem:p.nil=ak->∃vals,n8 w p.blk vals/\p.n<=p.cap/\p.cap<=maxLen/\p.off+p.cap*p.sz<=vals.size/\
  ∀(i:aE) (y:az CV) (j:aE) (x:CV),xs[i]? =ah y->y[j]? =ah x->∃u:bn,vals[p.off+i*p.sz+j]? =ah u/\R i j u x
def XC(E:Tab)(w:bM)(G:aE->aE->Pl)(i j:aE)(u:bn):CV->Prop
 | .l e ys=>u=l_ (G i j)/\∃ti,E.ty e=ah ti/\plain ti.ks=ai/\(G i j).sz=ti.ks.length/\(∀y∈ys,y.map CV.kd=ti.ks)/\jl w (G i j) ys (λ_ _ u x=>Sc u x)
 |x=>Sc u x
def uI:CV->aU| .l _ _=>ai|_=>ak
def gm(xs:aQ)(i j:aE):Prop:=∃y x,xs[i]? =ah y/\y[j]? =ah x/\uI x=ai
structure Gt (p:Pl) (G:aE->aE->Pl) (xs:aQ):Prop where
 out:∀i j,gm xs i j->(G i j).nil=ak->p.nil=ak->(G i j).blk≠p.blk
 one:∀i j i' j',gm xs i j->gm xs i' j'->(G i j).nil=ak->(G i' j').nil=ak->(G i j).blk=(G i' j').blk->i=i'/\j=j'
structure Nd (E:Tab) (w:bM) (c:eZ) (nm e:aE) (ex:aU) (xs:aQ):Prop where
 sh:∃ti,E.ty e=ah ti/\(c.P nm).sz=ti.ks.length/\∀y∈xs,y.map CV.kd=ti.ks
 at_:jl w (c.P nm) xs (λi j u x=>if ex=ai then XC E w (c.G nm) i j u x else da E w c.K u x)
 inn:ex=ai->Gt (c.P nm) (c.G nm) xs
def FB(E:Tab)(w:bM)(K:aE->Prop)(b:aE)(cs:az CV):Prop:=
 K b/\∀(q:aE) (x:CV),cs[q]? =ah x->∃u:bn,w.cell? (ad b q)=ah u/\da E w K u x
def xC(p:Pl)(lo hi:aE)(v:bn):Prop:=
 lo<=hi/\hi<=p.n/\(p.nil=ai->v= .slice aj 0 0)/\
 (p.nil=ak->(lo<p.cap/\v= .slice (ah (ad p.blk (p.off+lo*p.sz))) (hi-lo) (p.cap-lo))\/(lo=p.cap/\∃o,o<=p.off+p.cap*p.sz/\v= .slice (ah (ad p.blk o)) 0 0))
def eF(E:Tab)(w:bM)(c:eZ):AV->bn->Prop
 | .i k n,v=>v= .int k n
 | .b x,v=>v= .bool x
 | .s x,v=>v= .string x/\Ez x
 | .sh e xs,v=>da E w c.K v (.l e xs)
 | .nl,v=>v= .slice aj 0 0
 | .own nm,v=>v=l_ (c.P nm)
 | .vw nm lo hi,v=>xC (c.P nm) lo hi v
 | .bp nm j,v=>v= .pointer (ah (ad (c.P nm).blk j))
 | .rp nm i j,v=>i<(c.P nm).n/\v= .pointer (ah (ad (c.P nm).blk ((c.P nm).off+i*(c.P nm).sz+j)))
 | .sp e xs i j,v=>∃b o cp ti,da E w c.K (.slice (ah (ad b o)) xs.length cp) (.l e xs)/\i<xs.length/\E.ty e=ah ti/\v= .pointer (ah (ad b (o+i*ti.ks.length+j)))
 | .inn nm i j,v=>(i<(c.P nm).n/\v=l_ (c.G nm i j))/\zP nm=ak
 | .ip nm i j i2 j2,v=>(i<(c.P nm).n/\i2<(c.G nm i j).n/\v= .pointer (ah (ad (c.G nm i j).blk ((c.G nm i j).off+i2*(c.G nm i j).sz+j2))))/\zP nm=ak
 | .fn f iW,v=>∃ps:dt bn,v= .func (.func f) #[] ps/\ps.size=iW.length/\∀(q:aE) (cs:az CV),iW[q]? =ah cs->∃b:aE,ps[q]? =ah (.pointer (ah (ad b 0)))/\FB E w c.K b cs
 | .fp cs j,v=>∃b,v= .pointer (ah (ad b j))/\FB E w c.K b cs
def qo(E:Tab)(w:bM)(c:eZ)(agg:aU)(xs:az AV)(v:bn):Prop:=
 match agg,xs with
 |false,[a]=>eF E w c a v
 |true,xs=>∃vals:dt bn,v= .agg vals/\vals.size=xs.length/\∀(j:aE) (a:AV),xs[j]? =ah a->∃u:bn,vals[j]? =ah u/\eF E w c a u
 |_,_=>False
def jm(E:Tab)(w:bM)(c:eZ):SV->bn->Prop
 | .v agg xs,v=>qo E w c agg xs v
 | .kq l,v=>∃vs:dt bn,v= .tuple vs/\vs.size=l.length/\∀(j:aE) (agg:aU) (xs:az AV),l[j]? =ah (agg,xs)->∃u:bn,vs[j]? =ah u/\qo E w c agg xs u
 | .un,_=>True
def pU(E:Tab)(w:bM)(c:eZ)(nm:aE):Obj->Prop
 | .box xs=>∃vals,n8 w (c.P nm).blk vals/\vals.size=xs.length/\∀(j:aE) (a:AV),xs[j]? =ah a->∃u:bn,vals[j]? =ah u/\eF E w c a u
 | .oe cs=>FB E w c.K (c.P nm).blk cs
 | .row e ex xs=>Nd E w c nm e ex xs
 | .fW e xs=>da E w c.K (l_ (c.P nm)) (.l e xs)/\(c.P nm).n=xs.length/\∃ti,E.ty e=ah ti/\(c.P nm).sz=ti.ks.length
 | .dead=>True
def fL(c:eZ)(nm:aE):Obj->aE->Prop
 | .box _,b=>b=(c.P nm).blk
 | .row _ ex xs,b=>((c.P nm).nil=ak/\b=(c.P nm).blk)\/(ex=ai/\∃i j,gm xs i j/\(c.G nm i j).nil=ak/\b=(c.G nm i j).blk)
 |_,_=>False
def wS(σ:St)(c:eZ)(b:aE):Prop:=∃nm o,σ (c9 nm)= .o o/\fL c nm o b
def jk(σ:St)(a:AV):Prop:=∀n∈bR a,σ (c9 n)≠ .j9
def mX(σ:St)(v:SV):Prop:=∀n∈cO v,σ (c9 n)≠ .j9
structure Ok (E:Tab) (σ:St) (w:bM) (c:eZ):Prop where
 obj:∀nm o,σ (c9 nm)= .o o->pU E w c nm o
 sep:∀nm o xZ o' b,σ (c9 nm)= .o o->σ (c9 xZ)= .o o'->fL c nm o b->fL c xZ o' b->nm=xZ
 kk:∀nm o b,σ (c9 nm)= .o o->fL c nm o b->¬c.K b
 lt:∀b,c.K b->b<w.heap.size
 kn:∀nm xs,σ (c9 nm)= .o (.box xs)->∀a∈xs,jk σ a
structure fy (E:Tab) (σ:St) (a:Act) (w:bM) (c:eZ):Prop where
 ok:∀n,jm E w c (slot σ n) (a.eval (.tmp n))
 kn:∀n,mX σ (slot σ n)
 df:a.defers=[]
def jE(σ:St)(c c':eZ):Prop:=∀nm,(σ (c9 nm)≠ .j9\/900000000<=nm)->c'.P nm=c.P nm/\c'.G nm=c.G nm
def rj(σ:St)(c c':eZ):Prop:=∀nm,(σ (c9 nm)≠ .j9\/900000000<=nm)->c'.P nm=c.P nm/\(zP nm=ak->c'.G nm=c.G nm)
theorem jE.w{σ:St}{c c':eZ}(h:jE σ c c'):rj σ c c':=λnm hn=>⟨(h nm hn).1,λ_=>(h nm hn).2⟩
structure oG (σ:St) (c:eZ) (w:bM) (σ':St) (c':eZ) (w':bM):Prop where
 os:w'.os=w.os
 tape:w'.tape=w.tape
 output:w'.output=w.output
 size:w.heap.size<=w'.heap.size
 K:∀b,c.K b->c'.K b
 same:∀b,b<w.heap.size->¬wS σ c b->w'.heap[b]? =w.heap[b]?
 own:∀b,wS σ' c' b->wS σ c b\/w.heap.size<=b
 kn:∀b,c'.K b->c.K b\/wS σ c b\/w.heap.size<=b
theorem wS.lt{E:Tab}{σ:St}{w:bM}{c:eZ}(h:Ok E σ w c){b:aE}(ho:wS σ c b):b<w.heap.size:=by
 obtain⟨nm,o,h1,h2⟩:=ho;have na:=h.obj nm o h1;cases o with
 |box xs=>obtain⟨vals,hb,_⟩:=na;cases h2;exact hb.lt
 |oe=>exact h2.elim
 |fW=>exact h2.elim
 |dead=>exact h2.elim
 |row e ex xs=>
  rcases h2 with ⟨hn,rfl⟩|⟨hex,i,j,⟨y,x,hy,hx,hl⟩,hn,rfl⟩
  ·obtain⟨vals,hb,_⟩:=na.at_.mem hn;exact hb.lt
  ·by_cases hp:(c.P nm).nil=ai
   ·have:=(na.at_.nil hp).1;subst this;simp at hy
   ·obtain⟨vals,hb,_,_,_,hc⟩:=na.at_.mem (by simpa using hp);obtain⟨u,_,hu⟩:=hc i y j x hy hx;rw[bA hex]at hu;cases x with
    |l e2 ys=>obtain⟨_,ti,_,_,_,_,hr⟩:=hu;obtain⟨v2,FE,_⟩:=hr.mem hn;exact FE.lt
    |i=>simp[uI]at hl
    |b=>simp[uI]at hl
    |s=>simp[uI]at hl
theorem Ok.J7{E:Tab}{σ:St}{w:bM}{c:eZ}(h:Ok E σ w c){b:aE}(ho:wS σ c b):¬c.K b:=by obtain⟨nm,o,h1,h2⟩:=ho;exact h.kk nm o b h1 h2
theorem oG.refl(σ:St)(c:eZ)(w:bM):oG σ c w σ c w:=
 ⟨rfl,rfl,rfl,cG _,λ_ h=>h,λ_ _ _=>rfl,λ_ h=> .inl h,λ_ h=> .inl h⟩
theorem oG.trans{σ σ1 σ2:St}{c c1 c2:eZ}{w w1 w2:bM}(h:oG σ c w σ1 c1 w1)(k:oG σ1 c1 w1 σ2 c2 w2):oG σ c w σ2 c2 w2 where
 os:=k.os.trans h.os
 tape:=k.tape.trans h.tape
 output:=k.output.trans h.output
 size:=dg h.size k.size
 K b hb:=k.K b (h.K b hb)
 same b hb hn:=(k.same b (jy hb h.size) (λho=>(h.own b ho).elim hn (λh=>by omega))).trans (h.same b hb hn)
 own b hb:=(k.own b hb).elim (h.own b) (λh1=> .inr (dg h.size h1))
 kn b hb:=by
  rcases k.kn b hb with h1|h1|h1
  ·exact h.kn b h1
  ·exact .inr (h.own b h1)
  ·exact .inr (.inr (dg h.size h1))
theorem oG.aaP{E:Tab}{σ σ':St}{c c':eZ}{w w':bM}(cg:Ok E σ w c)(h:oG σ c w σ' c' w'):∀b,c.K b->w'.heap[b]? =w.heap[b]? :=
 λb hb=>h.same b (cg.lt b hb) (λho=>cg.J7 ho hb)
theorem FB.frame{E:Tab}{w w':bM}{K K':aE->Prop}{b:aE}{cs:az CV}(h:FB E w K b cs)(hw:∀b,K b->w'.heap[b]? =w.heap[b]?)(hK:∀b,K b->K' b):FB E w' K' b cs:=
 ⟨hK b h.1,λq x hq=>by
  obtain⟨u,hu,hh⟩:=h.2 q x hq;exact⟨u,(uY (a:=ad b q) (hw b h.1)).trans hu,hh.frame hw hK⟩⟩
theorem eF.pA{E:Tab}{w w':bM}{c c':eZ}{a:AV}{v:bn}(h:eF E w c a v)(hw:∀b,c.K b->w'.heap[b]? =w.heap[b]?)(hK:∀b,c.K b->c'.K b)
  (hP:∀n∈bR a,c'.P n=c.P n/\(zP n=ak->c'.G n=c.G n)):eF E w' c' a v:=by
 cases a with
 |i=>exact h
 |b=>exact h
 |s=>exact h
 |nl=>exact h
 |sh e xs=>exact da.frame h hw hK
 |own n=>have:=hP n (by simp[bR]);simp only[eF,this.1]at h⊢;exact h
 |vw n lo hi=>have:=hP n (by simp[bR]);simp only[eF,this.1]at h⊢;exact h
 |bp n j=>have:=hP n (by simp[bR]);simp only[eF,this.1]at h⊢;exact h
 |rp n i j=>have:=hP n (by simp[bR]);simp only[eF,this.1]at h⊢;exact h
 |inn n i j=>have h0:=hP n (by simp[bR]);have this:=h0.2 h.2;simp only[eF,h0.1,this]at h⊢;exact h
 |ip n i j i2 j2=>have h0:=hP n (by simp[bR]);have this:=h0.2 h.2;simp only[eF,h0.1,this]at h⊢;exact h
 |sp e xs i j=>obtain⟨b,o,cp,ti,h1,h2,h3,h4⟩:=h;exact⟨b,o,cp,ti,h1.frame hw hK,h2,h3,h4⟩
 |fn f iW=>obtain⟨ps,h1,h2,h3⟩:=h;exact⟨ps,h1,h2,λq cs hq=>by obtain⟨b,hb,hf⟩:=h3 q cs hq;exact⟨b,hb,hf.frame hw hK⟩⟩
 |fp cs j=>obtain⟨b,h1,h2⟩:=h;exact⟨b,h1,h2.frame hw hK⟩
theorem qo.pA{E:Tab}{w w':bM}{c c':eZ}{agg:aU}{xs:az AV}{v:bn}(h:qo E w c agg xs v)(hw:∀b,c.K b->w'.heap[b]? =w.heap[b]?)(hK:∀b,c.K b->c'.K b)
  (hP:∀n∈xs.flatMap bR,c'.P n=c.P n/\(zP n=ak->c'.G n=c.G n)):qo E w' c' agg xs v:=by
 unfold qo at h⊢;split at h
 ·rename_i a;exact eF.pA h hw hK (λn hn=>hP n (by simpa using hn))
 ·obtain⟨vals,h1,h2,h3⟩:=h;refine⟨vals,h1,h2,λj a hj=> ?_⟩
  obtain⟨u,hu,hv⟩:=h3 j a hj;exact⟨u,hu,hv.pA hw hK (λn hn=>hP n (bQ.2 ⟨a,aR hj,hn⟩))⟩
 ·exact h.elim
theorem jm.pA{E:Tab}{w w':bM}{c c':eZ}{s:SV}{v:bn}(h:jm E w c s v)(hw:∀b,c.K b->w'.heap[b]? =w.heap[b]?)(hK:∀b,c.K b->c'.K b)
  (hP:∀n∈cO s,c'.P n=c.P n/\(zP n=ak->c'.G n=c.G n)):jm E w' c' s v:=by
 cases s with
 |un=>trivial
 |v agg xs=>exact qo.pA h hw hK hP
 |kq l=>
  obtain⟨vs,h1,h2,h3⟩:=h;refine⟨vs,h1,h2,λj agg xs hj=> ?_⟩
  obtain⟨u,hu,hv⟩:=h3 j agg xs hj;exact⟨u,hu,hv.pA hw hK (λn hn=>hP n (bQ.2 ⟨(agg,xs),aR hj,hn⟩))⟩
theorem eF.frame{E:Tab}{w w':bM}{c c':eZ}{a:AV}{v:bn}(h:eF E w c a v)(hw:∀b,c.K b->w'.heap[b]? =w.heap[b]?)(hK:∀b,c.K b->c'.K b)
  (hP:∀n∈bR a,c'.P n=c.P n/\c'.G n=c.G n):eF E w' c' a v:=h.pA hw hK (λn hn=>⟨(hP n hn).1,λ_=>(hP n hn).2⟩)
theorem qo.frame{E:Tab}{w w':bM}{c c':eZ}{agg:aU}{xs:az AV}{v:bn}(h:qo E w c agg xs v)(hw:∀b,c.K b->w'.heap[b]? =w.heap[b]?)(hK:∀b,c.K b->c'.K b)
  (hP:∀n∈xs.flatMap bR,c'.P n=c.P n/\c'.G n=c.G n):qo E w' c' agg xs v:=h.pA hw hK (λn hn=>⟨(hP n hn).1,λ_=>(hP n hn).2⟩)
theorem jm.frame{E:Tab}{w w':bM}{c c':eZ}{s:SV}{v:bn}(h:jm E w c s v)(hw:∀b,c.K b->w'.heap[b]? =w.heap[b]?)(hK:∀b,c.K b->c'.K b)
  (hP:∀n∈cO s,c'.P n=c.P n/\c'.G n=c.G n):jm E w' c' s v:=h.pA hw hK (λn hn=>⟨(hP n hn).1,λ_=>(hP n hn).2⟩)
theorem jl.frame{w w':bM}{p:Pl}{xs:aQ}{R R':aE->aE->bn->CV->Prop}(h:jl w p xs R)(hw:p.nil=ak->w'.heap[p.blk]? =w.heap[p.blk]?)
  (hR:∀i j y x u,xs[i]? =ah y->y[j]? =ah x->R i j u x->R' i j u x):jl w' p xs R' where
 n:=h.n
 nil:=h.nil
 mem hn:=by
  obtain⟨vals,h1,h2,h3,h4,h5⟩:=h.mem hn;refine⟨vals,h1.frame (hw hn),h2,h3,h4,λi y j x hi hj=> ?_⟩
  obtain⟨u,hu,hr⟩:=h5 i y j x hi hj;exact⟨u,hu,hR i j y x u hi hj hr⟩
theorem XC.frame{E:Tab}{w w':bM}{G:aE->aE->Pl}{i j:aE}{u:bn}{x:CV}(h:XC E w G i j u x)(hw:uI x=ai->(G i j).nil=ak->w'.heap[(G i j).blk]? =w.heap[(G i j).blk]?):XC E w' G i j u x:=by
 cases x with
 |l e ys=>obtain⟨h1,ti,h2,h3,h4,h5,h6⟩:=h;exact⟨h1,ti,h2,h3,h4,h5,h6.frame (hw rfl) (λ_ _ _ _ _ _ _ h=>h)⟩
 |i=>exact h
 |b=>exact h
 |s=>exact h
theorem pU.frame{E:Tab}{w w':bM}{c c':eZ}{nm:aE}{o:Obj}(h:pU E w c nm o)(hw:∀b,c.K b->w'.heap[b]? =w.heap[b]?)(hK:∀b,c.K b->c'.K b)
  (hf:∀b,fL c nm o b->w'.heap[b]? =w.heap[b]?) (hP:c'.P nm=c.P nm/\c'.G nm=c.G nm)
  (hPs:∀xs,o= .box xs->∀a∈xs,∀n∈bR a,c'.P n=c.P n/\(zP n=ak->c'.G n=c.G n)):pU E w' c' nm o:=by
 cases o with
 |dead=>trivial
 |box xs=>
  obtain⟨vals,h1,h2,h3⟩:=h;refine⟨vals, ?_,h2,λj a hj=> ?_⟩
  ·rw[hP.1];exact h1.frame (hf _ rfl)
  ·obtain⟨u,hu,hv⟩:=h3 j a hj;exact⟨u,hu,hv.pA hw hK (hPs xs rfl a (aR hj))⟩
 |oe cs=>show FB E w' c'.K (c'.P nm).blk cs;rw[hP.1];exact FB.frame h hw hK
 |fW e xs=>
  obtain⟨h1,h2,h3⟩:=h;refine⟨?_, ?_, ?_⟩
  ·rw[hP.1];exact h1.frame hw hK
  ·rw[hP.1];exact h2
  ·rw[hP.1];exact h3
 |row e ex xs=>
  obtain⟨h1,h2,h3⟩:=h;refine⟨by rw[hP.1];exact h1, ?_,by rw[hP.1,hP.2];exact h3⟩
  rw[hP.1,hP.2];refine h2.frame (λhn=>hf _ (.inl ⟨hn,rfl⟩)) (λi j y x u hi hj hr=> ?_);by_cases hx:ex=ai
  ·rw[bA hx]at hr⊢;exact hr.frame (λhl hn=>hf _ (.inr ⟨hx,i,j,⟨y,x,hi,hj,hl⟩,hn,rfl⟩))
  ·rw[bJ hx]at hr⊢;exact hr.frame hw hK
end Go.FG

namespace Go.FG
theorem ui(s:St)(k:aE)(c:eP):pS s k c k=c:=by simp[pS]
theorem Ae(s:St){k n:aE}(c:eP)(h:n≠k):pS s k c n=s n:=by
 have:bF n k=false:=by
  cases hb:bF n k with
  |false=>rfl
  |true=>exact cL (aW hb) h
 simp[pS,this]
theorem se(n m:aE):qv n≠c9 m:=by unfold qv c9;omega
theorem mC(n m:aE):c9 n≠qv m:=by unfold qv c9;omega
theorem Ig{n m:aE}(h:qv n=qv m):n=m:=by unfold qv at h;omega
theorem j4{n m:aE}(h:c9 n=c9 m):n=m:=by unfold c9 at h;omega
theorem Kz(s:St)(d:aE)(c:eP)(m:aE):pS s (qv d) c (c9 m)=s (c9 m):=Ae s c (mC m d)
theorem qd(s:St)(n:aE)(c:eP)(m:aE):pS s (c9 n) c (c9 m)=if m=n then c else s (c9 m):=by
 by_cases h:m=n
 ·subst h;simp[ui]
 ·rw[bJ h];exact Ae s c (λe=>h (j4 e))
theorem js(s:St)(n:aE)(c:eP)(m:aE):slot (pS s (c9 n) c) m=slot s m:=by unfold slot;rw[Ae s c (se m n)]
theorem yD(s:St)(d:aE)(v:SV)(m:aE):slot (pS s (qv d) (.v v)) m=if m=d then v else slot s m:=by
 by_cases h:m=d
 ·subst h;simp[slot,ui]
 ·rw[bJ h];unfold slot;rw[Ae s _ (λe=>h (Ig e))]
theorem QM(s:St)(l r:az (aE×eP)):wr s (l++r)=wr (wr s l) r:=by
 induction l generalizing s with
 |nil=>rfl
 |cons a l ih=>obtain⟨k,c⟩:=a;exact ih _
def Rd.val{α:Type}(m:Rd α)(σ:St):aA α:=(m.run σ []).map (·.1)
theorem lD{α:Type}(m:Rd α)(σ:St):∀l,(m.run σ l).map (·.1)=m.val σ:=by
 induction m with
 |ret a=>intro l;rfl
 |fail=>intro l;rfl
 |get k f ih=>intro l;simp only[Rd.run,Rd.val];rw[ih,ih]
theorem Rd.MA{α:Type}{m:Rd α}{σ:St}{l l':az aE}{a:α}(h:m.run σ l=ah (a,l')):m.val σ=ah a:=by rw[<-lD m σ l,h];rfl
@[simp] theorem Rd.aoV {α:Type} (a:α) (σ:St):(Rd.ret a).val σ=some a:=rfl
@[simp] theorem Rd.anK {α:Type} (σ:St):(Rd.fail:Rd α).val σ=none:=rfl
@[simp] theorem Rd.BV {α:Type} (k:Nat) (f:eP->Rd α) (σ:St):(Rd.get k f).val σ=(f (σ k)).val σ:=by
 simp only[Rd.val,Rd.run];exact(lD (f (σ k)) σ [k])
@[simp] theorem Rd.Wu {α β:Type} (m:Rd α) (f:α->Rd β) (σ:St):(m.bind f).val σ=(m.val σ).bind λa=>(f a).val σ:=by
 induction m with
 |ret a=>rfl
 |fail=>rfl
 |get k g ih=>simp only[Rd.bind,Rd.BV];exact ih _
theorem Rd.bind_some{α β:Type}{m:Rd α}{f:α->Rd β}{σ:St}{b:β}(h:(m.bind f).val σ=ah b):∃a,m.val σ=ah a/\(f a).val σ=ah b:=by rw[Rd.Wu,Option.bind_eq_some_iff]at h;exact h
theorem cR{α:Type}{b:aU}{m:Rd α}{σ:St}{a:α}(h:(bif b then m else Rd.fail).val σ=ah a):b=ai/\m.val σ=ah a:=by
 cases b with
 |true=>exact⟨rfl,h⟩
 |false=>simp at h
def ka(Ch:aE->Prop)(σ:St)(c:eZ)(b:aE):Prop:=∃nm o,Ch nm/\σ (c9 nm)= .o o/\fL c nm o b
theorem ka.own{Ch:aE->Prop}{σ:St}{c:eZ}{b:aE}(h:ka Ch σ c b):wS σ c b:=by obtain⟨nm,o,_,h1,h2⟩:=h;exact⟨nm,o,h1,h2⟩
theorem mA{c c':eZ}{nm:aE}{o:Obj}(h:c'.P nm=c.P nm/\c'.G nm=c.G nm)(b:aE):fL c' nm o b=fL c nm o b:=by cases o<;>simp only[fL,h.1,h.2]
theorem Ok.xF{E:Tab}{σ σ':St}{w w':bM}{c c':eZ}(h:Ok E σ w c)(Ch:aE->Prop)
  (hσ:∀nm,¬Ch nm->σ' (c9 nm)=σ (c9 nm)) (iz:∀nm,σ (c9 nm)≠ .j9->σ' (c9 nm)≠ .j9) (hA:rj σ c c') (hAG:∀nm,¬Ch nm->σ (c9 nm)≠ .j9->c'.G nm=c.G nm)
  (hW:∀b,b<w.heap.size->¬ka Ch σ c b->w'.heap[b]? =w.heap[b]?) (gj:w.heap.size<=w'.heap.size)
  (hK:∀b,c.K b->c'.K b) (W3:∀b,c'.K b->c.K b\/ka Ch σ c b\/w.heap.size<=b) (HE:∀b,c'.K b->b<w'.heap.size)
  (na:∀nm o,Ch nm->σ' (c9 nm)= .o o->pU E w' c' nm o)
  (pZ:∀nm o b,Ch nm->σ' (c9 nm)= .o o->fL c' nm o b->(ka Ch σ c b\/w.heap.size<=b)/\¬c'.K b)
  (TG:∀nm o xZ o' b,Ch nm->Ch xZ->σ' (c9 nm)= .o o->σ' (c9 xZ)= .o o'->fL c' nm o b->fL c' xZ o' b->nm=xZ)
  (JJ:∀nm xs,Ch nm->σ' (c9 nm)= .o (.box xs)->∀a∈xs,jk σ' a)
  (PZ:w'.os=w.os) (TH:w'.tape=w.tape) (afX:w'.output=w.output):Ok E σ' w' c'/\oG σ c w σ' c' w':=by
 have Of:∀nm o b,¬Ch nm->σ (c9 nm)= .o o->fL c nm o b->¬ka Ch σ c b:=by intro nm o b hc ho hf ⟨iE,o2,hc2,ho2,hf2⟩;exact hc (h.sep nm o iE o2 b ho ho2 hf hf2▸hc2)
 have agr:∀nm o,¬Ch nm->σ' (c9 nm)= .o o->σ (c9 nm)= .o o/\(c'.P nm=c.P nm/\c'.G nm=c.G nm):=by intro nm o hc ho;rw[hσ nm hc]at ho;exact⟨ho,(hA nm (.inl (by rw[ho];simp))).1,hAG nm hc (by rw[ho];simp)⟩
 have akY:∀b,c.K b->w'.heap[b]? =w.heap[b]? :=λb hb=>hW b (h.lt b hb) (λhi=>h.J7 hi.own hb);have lt:∀nm o b,σ (c9 nm)= .o o->fL c nm o b->b<w.heap.size:=λnm o b ho hf=>wS.lt h ⟨nm,o,ho,hf⟩;refine⟨⟨?_, ?_, ?_,HE, ?_⟩,⟨PZ,TH,afX,gj,hK, ?_, ?_, ?_⟩⟩
 ·intro nm o ho;by_cases hc:Ch nm
  ·exact na nm o hc ho
  ·obtain⟨vx,ha⟩:=agr nm o hc ho;refine(h.obj nm o vx).frame akY hK (λb hb=>hW b (lt nm o b vx hb) (Of nm o b hc vx hb)) ha ?_;intro xs hx a hm n hn;exact hA n (.inl (h.kn nm xs (hx▸vx) a hm n hn))
 ·intro nm o xZ o' b ho vx hf vt;by_cases hc:Ch nm
  ·by_cases JD:Ch xZ
   ·exact TG nm o xZ o' b hc JD ho vx hf vt
   ·obtain⟨h1,ha⟩:=agr xZ o' JD vx;rw[mA ha]at vt;rcases(pZ nm o b hc ho hf).1 with hi|hi
    ·exact cL hi (Of xZ o' b JD h1 vt)
    ·have:=lt xZ o' b h1 vt;omega
  ·obtain⟨h1,ha⟩:=agr nm o hc ho;rw[mA ha]at hf;by_cases JD:Ch xZ
   ·rcases(pZ xZ o' b JD vx vt).1 with hi|hi
    ·exact cL hi (Of nm o b hc h1 hf)
    ·have:=lt nm o b h1 hf;omega
   ·obtain⟨h2,ha'⟩:=agr xZ o' JD vx;rw[mA ha']at vt;exact h.sep nm o xZ o' b h1 h2 hf vt
 ·intro nm o b ho hf;by_cases hc:Ch nm
  ·exact(pZ nm o b hc ho hf).2
  ·obtain⟨h1,ha⟩:=agr nm o hc ho;rw[mA ha]at hf;intro hk;rcases W3 b hk with h2|h2|h2
   ·exact h.kk nm o b h1 hf h2
   ·exact Of nm o b hc h1 hf h2
   ·have:=lt nm o b h1 hf;omega
 ·intro nm xs ho a hm;by_cases hc:Ch nm
  ·exact JJ nm xs hc ho a hm
  ·obtain⟨h1,_⟩:=agr nm _ hc ho;intro n hn;exact iz n (h.kn nm xs h1 a hm n hn)
 ·intro b hb hn;exact hW b hb (λhi=>hn hi.own)
 ·rintro b ⟨nm,o,ho,hf⟩;by_cases hc:Ch nm
  ·exact(pZ nm o b hc ho hf).1.imp ka.own id
  ·obtain⟨h1,ha⟩:=agr nm o hc ho;rw[mA ha]at hf;exact .inl ⟨nm,o,h1,hf⟩
 ·intro b hb;rcases W3 b hb with h2|h2|h2
  ·exact .inl h2
  ·exact .inr (.inl h2.own)
  ·exact .inr (.inr h2)
theorem Ok.change{E:Tab}{σ σ':St}{w w':bM}{c c':eZ}(h:Ok E σ w c)(Ch:aE->Prop)
  (hσ:∀nm,¬Ch nm->σ' (c9 nm)=σ (c9 nm)) (iz:∀nm,σ (c9 nm)≠ .j9->σ' (c9 nm)≠ .j9) (hA:jE σ c c')
  (hW:∀b,b<w.heap.size->¬ka Ch σ c b->w'.heap[b]? =w.heap[b]?) (gj:w.heap.size<=w'.heap.size)
  (hK:∀b,c.K b->c'.K b) (W3:∀b,c'.K b->c.K b\/ka Ch σ c b\/w.heap.size<=b) (HE:∀b,c'.K b->b<w'.heap.size)
  (na:∀nm o,Ch nm->σ' (c9 nm)= .o o->pU E w' c' nm o)
  (pZ:∀nm o b,Ch nm->σ' (c9 nm)= .o o->fL c' nm o b->(ka Ch σ c b\/w.heap.size<=b)/\¬c'.K b)
  (TG:∀nm o xZ o' b,Ch nm->Ch xZ->σ' (c9 nm)= .o o->σ' (c9 xZ)= .o o'->fL c' nm o b->fL c' xZ o' b->nm=xZ)
  (JJ:∀nm xs,Ch nm->σ' (c9 nm)= .o (.box xs)->∀a∈xs,jk σ' a)
  (PZ:w'.os=w.os) (TH:w'.tape=w.tape) (afX:w'.output=w.output):Ok E σ' w' c'/\oG σ c w σ' c' w':=
 h.xF Ch hσ iz hA.w (λnm _ hn=>(hA nm (.inl hn)).2) hW gj hK W3 HE na pZ TG JJ PZ TH afX
theorem Ok.slot{E:Tab}{σ σ':St}{w:bM}{c:eZ}(h:Ok E σ w c)(hσ:∀nm,σ' (c9 nm)=σ (c9 nm)):Ok E σ' w c/\oG σ c w σ' c w:=by
 refine⟨⟨λnm o ho=>h.obj nm o (hσ nm▸ho),λnm o xZ o' b h1 h2=>h.sep nm o xZ o' b (hσ nm▸h1) (hσ xZ▸h2),λnm o b h1=>h.kk nm o b (hσ nm▸h1),h.lt,λnm xs ho a hm n hn=>by rw[hσ];exact h.kn nm xs (hσ nm▸ho) a hm n hn⟩,
  ⟨rfl,rfl,rfl,cG _,λ_ h=>h,λ_ _ _=>rfl,λb ⟨nm,o,ho,hf⟩=> .inl ⟨nm,o,hσ nm▸ho,hf⟩,λ_ h=> .inl h⟩⟩
theorem Ei(a:Act)(d:aE)(v:bn)(h:d<a.tmps.size):(a.put (ah d) v).eval (.tmp d)=v:=by simp[WI,IM,h]
theorem Js(a:Act)(d n:aE)(v:bn)(h:n≠d):(a.put (ah d) v).eval (.tmp n)=a.eval (.tmp n):=by simp only[WI,IM,eK,ou];rw[bJ (λe=>h e.symm)]
theorem fy.xF{E:Tab}{σ σ':St}{a:Act}{w w':bM}{c c':eZ}(h:fy E σ a w c)(cg:Ok E σ w c)(hG:oG σ c w σ' c' w')(hA:rj σ c c')(iz:∀nm,σ (c9 nm)≠ .j9->σ' (c9 nm)≠ .j9)
  (o:fu) (v:bn) (hs:∀n,o.dst≠ah n->slot σ' n=slot σ n) (hd:∀d,o.dst=ah d->d<a.tmps.size/\jm E w' c' (slot σ' d) v/\mX σ' (slot σ' d)):fy E σ' (a.put o.dst v) w' c':=by
 have keep:∀n,jm E w' c' (slot σ n) (a.eval (.tmp n)):=λn=>(h.ok n).pA (hG.aaP cg) hG.K (λm hm=>hA m (.inl (h.kn n m hm)));have acE:∀n,mX σ' (slot σ n):=λn m hm=>iz m (h.kn n m hm);cases ho:o.dst with
 |none=>
  refine⟨λn=> ?_,λn=> ?_,h.df⟩
  ·rw[hs n (by simp[ho])];exact keep n
  ·rw[hs n (by simp[ho])];exact acE n
 |some d=>
  obtain⟨h1,h2,h3⟩:=hd d ho;refine⟨λn=> ?_,λn=> ?_,h.df⟩
  ·by_cases hn:n=d
   ·subst hn;rw[Ei a n v h1];exact h2
   ·rw[Js a d n v hn,hs n (by rw[ho];simpa using λe=>hn e.symm)];exact keep n
  ·by_cases hn:n=d
   ·subst hn;exact h3
   ·rw[hs n (by rw[ho];simpa using λe=>hn e.symm)];exact acE n
theorem fy.change{E:Tab}{σ σ':St}{a:Act}{w w':bM}{c c':eZ}(h:fy E σ a w c)(cg:Ok E σ w c)(hG:oG σ c w σ' c' w')(hA:jE σ c c')(iz:∀nm,σ (c9 nm)≠ .j9->σ' (c9 nm)≠ .j9)
  (o:fu) (v:bn) (hs:∀n,o.dst≠ah n->slot σ' n=slot σ n) (hd:∀d,o.dst=ah d->d<a.tmps.size/\jm E w' c' (slot σ' d) v/\mX σ' (slot σ' d)):fy E σ' (a.put o.dst v) w' c':=
 h.xF cg hG hA.w iz o v hs hd
theorem sg(σ:St)(o:fu)(v:SV):(∀n,o.dst≠ah n->slot (wr σ (dw o v)) n=slot σ n)/\(∀d,o.dst=ah d->slot (wr σ (dw o v)) d=v)/\∀nm,wr σ (dw o v) (c9 nm)=σ (c9 nm):=by
 cases ho:o.dst with
 |none=>simp[dw,ho,wr]
 |some d=>
  refine⟨λn hn=> ?_,λd' hd=> ?_,λnm=> ?_⟩
  ·simp only[dw,ho,wr];rw[yD,bJ (by rintro rfl;exact hn rfl)]
  ·cases hd;simp only[dw,ho,wr];rw[yD,bA rfl]
  ·simp only[dw,ho,wr];exact Kz _ _ _ _
end Go.FG

namespace Go.FG
def iK:Ck->bn
 | .i k=> .int k 0| .b=> .bool ak| .s=> .string ⟨#[]⟩| .l _=> .slice aj 0 0| .o=> .nilIface
def mg:AV->bn
 | .i k n=> .int k n| .b x=> .bool x| .s x=> .string x|_=> .nilIface
structure eA (P:cZ) (E:Tab):Prop where
 info:∀t ti,E.ty t=ah ti->∃inf,P.info? t=ah inf/\inf.size=ti.ks.length/\inf.bytes=ti.bytes/\0<ti.ks.length/\
  (L5 ti.ks=ai->∃z,inf.zero=ah z/\z.cells=(ti.ks.map iK).toArray/\(ti.agg=ai->z= .agg (ti.ks.map iK).toArray))
 desc:∀t ti,E.ty t=ah ti->∃d,P.underlying t=ah d/\
  (ti.agg=ai->∃fs,d= .struct fs/\∀f o n,E.fo t f=ah (o,n)->∃fd,fs[f]? =ah fd/\fd.offset=o/\(P.info? fd.type).map (·.size)=ah n/\n≠0/\o+n<=ti.ks.length)/\
  (ti.agg=ak->(∃k,ti.ks=[.i k]/\d= .int k)\/(ti.ks=[.b]/\d= .bool)\/(ti.ks=[.s]/\d= .string)\/(∃e,ti.ks=[.l e]/\d= .slice e)\/
   (ti.ks=[.o]/\(match d with| .struct _| .array _ _=>ak|_=>ai)=ai))
 fo:∀t f o n,E.fo t f=ah (o,n)->∃ti,E.ty t=ah ti/\ti.agg=ai
 pl:∀t ti,E.ty t=ah ti->ti.agg=ai->∀fs,P.underlying t=ah (.struct fs)->∃pl,fs.toList.mapM (λf=>(P.info? f.type).map λi=>(f.offset,i.size))=ah pl/\∀f o n,E.fo t f=ah (o,n)->pl[f]? =ah (o,n)
 eq:∀t ti,mS t E.eqs=ai->E.ty t=ah ti->∀(w:bM) (x y:dy) (xs ys:az AV) (r:aU),X1 xs ys=ah r->xs.map HN=ti.ks->ys.map HN=ti.ks->
  (do eqGuard .eql t x y (.agg (xs.map mg).toArray) (.agg (ys.map mg).toArray);binOp .eql t (.agg (xs.map mg).toArray) (.agg (ys.map mg).toArray)).run P w= .ok (.bool r) w/\
  (do eqGuard .neq t x y (.agg (xs.map mg).toArray) (.agg (ys.map mg).toArray);binOp .neq t (.agg (xs.map mg).toArray) (.agg (ys.map mg).toArray)).run P w= .ok (.bool !r) w
 fl:∀t f,E.To t f=ai->∀fs fd,P.underlying t=ah (.struct fs)->fs[f]? =ah fd->∀w,(Go.isAgg fd.type).run P w= .ok ak w
theorem Fp{v:bn}(h:v.oneCell'=ai):v.cells= #[v]:=by cases v<;>simp_all [Value.cells,Value.oneCell']
theorem eF.one{E:Tab}{w:bM}{c:eZ}{a:AV}{v:bn}(h:eF E w c a v):v.oneCell'=true:=by
 cases a with
 |i=>cases h;rfl
 |b=>cases h;rfl
 |s=>cases h.1;rfl
 |nl=>cases h;rfl
 |sh e xs=>cases h<;>rfl
 |own n=>cases h;unfold l_;split<;>rfl
 |vw n lo hi=>
  obtain⟨_,_,h1,h2⟩:=h;by_cases hn:(c.P n).nil=ai
  ·rw[h1 hn];rfl
  ·rcases h2 (by simpa using hn)with ⟨_,h⟩|⟨_,o,_,h⟩<;>rw[h]<;>rfl
 |bp n j=>cases h;rfl
 |rp n i j=>rw[h.2];rfl
 |sp e xs i j=>obtain⟨_,_,_,_,_,_,_,h⟩:=h;rw[h];rfl
 |inn n i j=>rw[h.1.2];unfold l_;split<;>rfl
 |ip n i j i2 j2=>rw[h.1.2.2];rfl
 |fn f iW=>obtain⟨ps,h,_⟩:=h;rw[h];rfl
 |fp cs j=>obtain⟨b,h,_⟩:=h;rw[h];rfl
section
variable {P:cZ} (w:bM)
theorem Addr.oc(b o i:aE):(ad b o).add i=ad b (o+i):=by unfold Addr.add ad;split<;>simp_all
theorem ED(b o:aE):∀(vs:az bn) (i:aE) (w:bM) (cur:dt bn),n8 w b cur->o+i+vs.length<=cur.size->(∀v∈vs,v.oneCell'=ai)->
  (storeCells (ad b o) vs i).run P w= .ok () (w.setRow b (cur.toList.take (o+i)++vs++cur.toList.drop (o+i+vs.length)).toArray):=by
 intro vs;induction vs with
 |nil=>intro i w cur hb _ _;obtain⟨t,fr,hg,hf⟩:=hb;simp only[storeCells,dj,jR,yZ,List.take_append_drop,um];rw[setRow_self w b cur t fr hg];rfl
 |cons v rest ih=>
  intro i w cur hb hl h1;have hi:o+i<cur.size:=by simp at hl;omega
  have ats:=hb.free hi;obtain⟨t,fr,hg,hf⟩:=hb;have hcell:w.cell? (ad b (o+i))=ah cur[o+i]:=by simp[World.cell?,hg,hi]
  have LM:(store ((ad b o).add i) v).run P w= .ok () (w.setRow b (cur.setIfInBounds (o+i) v)):=by rw[Addr.oc,run_store P w _ v _ (h1 v (by simp)),hcell];simp[ats,setCell_eq_setRow w b (o+i) cur t fr v hg]
  have Q9:n8 (w.setRow b (cur.setIfInBounds (o+i) v)) b (cur.setIfInBounds (o+i) v):=⟨t,fr,setRow_heap w b cur _ t fr hg,by simpa using hf⟩
  have ih':=ih (i+1) (w.setRow b (cur.setIfInBounds (o+i) v)) (cur.setIfInBounds (o+i) v) Q9 (by simp at hl⊢;omega) (λx hx=>h1 x (by simp[hx]));simp only[storeCells,cj,LM,bI,ih',setRow_setRow];congr 3;have e:=list_seg_step cur.toList (o+i) v rest (by simp at hl⊢;omega);simpa [Array.toList_setIfInBounds,mi]using e
def ed(cur:dt bn)(o:aE)(vs:az bn):dt bn:=(cur.toList.take o++vs++cur.toList.drop (o+vs.length)).toArray
theorem e8{cur:dt bn}{o:aE}{vs:az bn}(h:o+vs.length<=cur.size):(ed cur o vs).size=cur.size:=by simp[ed];omega
theorem gu{cur:dt bn}{o:aE}{vs:az bn}(h:o+vs.length<=cur.size)(k:aE):
  (ed cur o vs)[k]? =if o<=k/\k<o+vs.length then vs[k-o]? else cur[k]? :=by
 simp only[ed,ig];by_cases h1:k<o
 ·rw[bJ (by omega),cy,dF (by simp;omega),d_,bA h1];simp
 ·by_cases h2:k<o+vs.length
  ·rw[bA ⟨by omega,h2⟩,cy,db (by simp;omega),dF (by simp;omega)];congr 1;simp;omega
  ·rw[bJ (by omega),cy,db (by simp;omega),db (by simp;omega),dQ];simp only[cX];congr 1;simp;omega
theorem nQ{b o:aE}{vs:az bn}{cur:dt bn}(hb:n8 w b cur)(hl:o+vs.length<=cur.size)(h1:∀v∈vs,v.oneCell'=ai):
  (storeCells (ad b o) vs).run P w= .ok () (w.setRow b (ed cur o vs)):=by have:=ED (P:=P) b o vs 0 w cur hb (by simpa using hl) h1;simpa [ed]using this
theorem n8.setRow{w:bM}{b:aE}{cur new:dt bn}(h:n8 w b cur)(hs:new.size=cur.size):n8 (w.setRow b new) b new:=by obtain⟨t,fr,hg,hf⟩:=h;exact⟨t,fr,setRow_heap w b cur new t fr hg,by rw[hs];exact hf⟩
theorem n8.alloc(w:bM)(cs:dt bn)(t:TypeId):n8 (w.alloc (.cells cs t)) w.heap.size cs:=
 ⟨t,(0,0),heap_alloc_new w _,λo _=>by simp⟩
theorem yx{b o:aE}{cs:az bn}(h:∀j v,cs[j]? =ah v->w.cell? (ad b (o+j))=ah v):(loadCells (ad b o) cs.length).run P w= .ok cs.toArray w:=
 run_loadCells_list w (ad b o) cs (λj v hj=>by rw[Addr.oc];exact h j v hj)
theorem Ds{E:Tab}(hE:eA P E){t:aE}{ti:TI}(ht:E.ty t=ah ti){b o:aE}{cs:az bn}(hl:cs.length=ti.ks.length)(h:∀j v,cs[j]? =ah v->w.cell? (ad b (o+j))=ah v):
  (yW t (.pointer (ah (ad b o)))).run P w= .ok (if ti.agg=ai then .agg cs.toArray else cs.headD .nilIface) w:=by
 obtain⟨inf,hi,gj,_,ly,_⟩:=hE.info t ti ht;obtain⟨d,hd,ha,hn⟩:=hE.desc t ti ht;cases uH:ti.agg with
 |true=>obtain⟨fs,rfl,_⟩:=ha uH;have hr:=yx (P:=P) w (b:=b) (o:=o) h;simp only[yW,uX,loadVar,isAgg,cj,run_underlying hd,cT,bI,if_true,sizeOf,typeInfo,program,nB,hi,gj,<-hl,hr]
 |false=>
  have xT:∃k,ti.ks=[k]:=by rcases hn uH with ⟨k,h,_⟩|⟨h,_⟩|⟨h,_⟩|⟨e,h,_⟩|⟨h,_⟩<;>exact⟨_,h⟩
  obtain⟨k,hk⟩:=xT;rw[hk]at hl;obtain⟨v,rfl⟩:=g6.1 hl;have hc:=h 0 v rfl;simp only[yZ]at hc;have aBj:(match d with| .struct _| .array _ _=>ai|_=>ak)=false:=by
   rcases hn uH with ⟨k,_,rfl⟩|⟨_,rfl⟩|⟨_,rfl⟩|⟨e,_,rfl⟩|⟨_,h⟩
   ·rfl
   ·rfl
   ·rfl
   ·rfl
   ·cases d<;>simp_all
  have ata:(isAgg t).run P w= .ok ak w:=by simp only[isAgg,cj,run_underlying hd,bI];cases d<;>simp_all
  simp only[yW,uX,loadVar,cj,cT,bI,ata,dx,if_false,run_load,hc,List.headD]
theorem Ko{E:Tab}(hE:eA P E){t:aE}{ti:TI}(ht:E.ty t=ah ti){b o:aE}{v:bn}{cur:dt bn}(hl:v.cells.size=ti.ks.length)(hb:n8 w b cur)(hf:o+v.cells.size<=cur.size)(h1:∀u∈v.cells.toList,u.oneCell'=ai):
  (Xr t (.pointer (ah (ad b o))) v).run P w= .ok () (w.setRow b (ed cur o v.cells.toList)):=by obtain⟨inf,hi,gj,_⟩:=hE.info t ti ht;have hr:=nQ (P:=P) w hb (o:=o) (vs:=v.cells.toList) (by simpa using hf) h1;simp only[Xr,uX,storeVar,cj,cT,bI,sizeOf,typeInfo,program,nB,hi,gj,hl,ne_eq,not_true_eq_false,if_false,hr]
theorem Qw{E:Tab}(hE:eA P E){t:aE}{ti:TI}(ht:E.ty t=ah ti)(ho:L5 ti.ks=ai):
  (Instr.alloc t ai (.tuple #[])).run P w= .ok (.pointer (ah (ad w.heap.size 0))) (w.alloc (.cells (ti.ks.map iK).toArray t)):=by obtain⟨inf,hi,gj,_,_,hz⟩:=hE.info t ti ht;obtain⟨z,KH,Eu,_⟩:=hz ho;simp only[Instr.alloc,cj,zeroValue,typeInfo,program,nB,hi,bI,cT,KH,newVar,newRow,newObj,Eu];rfl
theorem VB(t:aE)(v:bn):(Instr.box t v).run P w= .ok (.pointer (ah (ad w.heap.size 0))) (w.alloc (.cells v.cells t)):=by simp only[Instr.box,cj,newVar,newRow,newObj,nB,bI,cT];rfl
theorem Kj{E:Tab}(hE:eA P E){t f off n:aE}(hf:E.fo t f=ah (off,n))(b o:aE):
  (Xp t (.pointer (ah (ad b o))) f).run P w= .ok (.pointer (ah (ad b (o+off)))) w:=by
 obtain⟨ti,ht,uH⟩:=hE.fo t f off n hf;obtain⟨d,hd,ha,_⟩:=hE.desc t ti ht;obtain⟨fs,rfl,LI⟩:=ha uH;obtain⟨fd,h1,h2,h3,h4,_⟩:=LI f off n hf;cases hq:P.info? fd.type with
 |none=>simp[hq]at h3
 |some inf=>
  have hs:inf.size=n:=by simpa [hq]using h3
  have iz:¬inf.size=0:=by omega
  simp only[Xp,cj,run_underlying hd,bI,h1,uX,cT,fieldPlace,sizeOf,typeInfo,program,nB,hq,bJ iz,nr,Addr.oc,h2]
theorem pq{E:Tab}(hE:eA P E){t e:aE}{ti:TI}(ht:E.ty t=ah ti)(uH:ti.agg=ak)(hk:ti.ks=[.l e]):P.underlying t=ah (.slice e):=by obtain⟨d,hd,_,hn⟩:=hE.desc t ti ht;rcases hn uH with ⟨k,h,_⟩|⟨h,_⟩|⟨h,_⟩|⟨e',h,rfl⟩|⟨h,_⟩<;>rw[hk]at h<;>simp_all
theorem Kk{E:Tab}(hE:eA P E){t e:aE}{te:TI}(hu:P.underlying t=ah (.slice e))(he:E.ty e=ah te)(b o n c:aE)(k:nA)(i:ax)(h0:0<=i)(h1:i<n):
  (Xq t (.slice (ah (ad b o)) n c) (.int k i)).run P w= .ok (.pointer (ah (ad b (o+i.toNat*te.ks.length)))) w:=by obtain⟨inf,hi,gj,_⟩:=hE.info e te he;simp only[Xq,asIntOf,cj,cT,bI,run_underlying hu,h0,h1,and_self,if_true,sizeOf,typeInfo,program,nB,hi,gj,Addr.oc]
end
end Go.FG

namespace Go.FG
section
variable {P:cZ} {E:fT} {σ:St} {a:Act} {w:bM} {c:eZ}
theorem mD(dI:fy E σ a w c){x:dy}{v:SV}(h:(H3 x).val σ=ah v):jm E w c v (a.eval x)/\mX σ v:=by
 cases x with
 |tmp t=>
  simp only[H3,Rd.BV]at h;cases hc:σ (qv t)with
  |v x=>rw[hc]at h;obtain rfl:=aJ h;have h1:=dI.ok t;have h2:=dI.kn t;simp only[slot,hc]at h1 h2;exact⟨h1,h2⟩
  |o x=>rw[hc]at h;simp at h;subst h;exact⟨trivial,λn hn=>by simp[cO]at hn⟩
  |j9=>rw[hc]at h;simp at h;subst h;exact⟨trivial,λn hn=>by simp[cO]at hn⟩
 |const v'=>
  obtain rfl:=aJ h;refine⟨?_, ?_⟩
  ·show jm E w c (cst v') v';unfold cst;split;case h_3 x=>
    cases hd:fJ x.size 4611686018427387904 with
    |true=>exact⟨rfl,cM hd⟩
    |false=>exact trivial
   all_goals first|trivial|rfl
  ·unfold cst;intro n hn;split at hn;case h_3 x=>
    cases hd:fJ x.size 4611686018427387904 with
    |true=>simp[hd,cO,bR]at hn
    |false=>simp[hd,cO]at hn
   all_goals simp[cO,bR]at hn
 |global g=>simp[H3]at h
 |func f=>obtain rfl:=aJ h;exact⟨⟨#[],rfl,rfl,λq cs hq=>by simp at hq⟩,λn hn=>by simp[cO,bR]at hn⟩
theorem jc(dI:fy E σ a w c){x:dy}{v:AV}(h:(rZ x).val σ=ah v):eF E w c v (a.eval x)/\jk σ v:=by
 obtain⟨s,h1,h2⟩:=Rd.bind_some h;obtain⟨h3,h4⟩:=mD dI h1;split at h2
 ·obtain rfl:=aJ h2;exact⟨h3,λn hn=>h4 n (by simpa [cO]using hn)⟩
 ·simp at h2
theorem qa(dI:fy E σ a w c){x:dy}{k:nA}{n:ax}(h:(C8 x).val σ=ah (k,n)):a.eval x= .int k n:=by
 obtain⟨s,h1,h2⟩:=Rd.bind_some h;obtain⟨h3,_⟩:=jc dI h1;split at h2
 ·simp at h2;obtain⟨rfl,rfl⟩:=h2;exact h3
 ·simp at h2
theorem dz{nm:aE}{x:Obj}(h:(jN nm).val σ=ah x):σ (c9 nm)= .o x:=by
 simp only[jN,Rd.BV]at h;split at h
 ·rename_i y hy;simp at h;subst h;exact hy
 ·simp at h
theorem dX{t:aE}{ti:TI}(h:(s6 E t).val σ=ah ti):E.ty t=ah ti:=by
 unfold s6 at h;split at h
 ·simp at h;subst h;assumption
 ·simp at h
theorem kO{nm:aE}{u:Unit}(h:(fresh nm).val σ=ah u):σ (c9 nm)= .j9/\nm<900000000:=by
 simp only[fresh,Rd.BV]at h;split at h
 ·rename_i hy;obtain⟨h1,_⟩:=cR h;exact⟨hy,by have:=cM h1;omega⟩
 ·simp at h
def gZ(P:cZ)(E:fT)(σ:St)(a:Act)(w:bM)(c:eZ)(o:fu)(ws:az (aE×eP)):Prop:=
 ∀(K:Act->bM->Prop) (Q:Exit->Act->bM->Prop),
  (∀v w' c',Ok E (wr σ ws) w' c'->fy E (wr σ ws) (a.put o.dst v) w' c'->oG σ c w (wr σ ws) c' w'->rj σ c c'->K (a.put o.dst v) w')->o.wp P a w K Q
theorem yJ{o:fu}{v:bn}{w':bM}{K:Act->bM->Prop}{Q:Exit->Act->bM->Prop}(hr:(execOp a.eval o).run P w= .ok (.value v) w')(hK:K (a.put o.dst v) w'):o.wp P a w K Q:=by unfold Pb;rw[hr];exact hK
theorem DG{o:fu}{w':bM}{K:Act->bM->Prop}{Q:Exit->Act->bM->Prop}(hr:(execOp a.eval o).run P w= .ok .skip w')(hK:K (a.put o.dst undef) w'):o.wp P a w K Q:=by unfold Pb;rw[hr];exact hK
theorem jE.refl(σ:St)(c:eZ):jE σ c c:=λ_ _=>⟨rfl,rfl⟩
theorem gL(cg:Ok E σ w c)(dI:fy E σ a w c){o:fu}(hd:∀d,o.dst=ah d->d<a.tmps.size){s:SV}{v:bn}
  (hs:jm E w c s v) (hk:mX σ s) (hr:(execOp a.eval o).run P w= .ok (.value v) w):gZ P E σ a w c o (dw o s):=by
 intro K Q hK;obtain⟨s1,s2,s3⟩:=sg σ o s;obtain⟨h1,h2⟩:=cg.slot s3;refine yJ hr (hK v w c h1 ?_ h2 (jE.refl _ _).w);refine dI.change cg h2 (jE.refl _ _) (λnm hn=>by rw[s3];exact hn) o v s1 (λd ho=>⟨hd d ho, ?_, ?_⟩)
 ·rw[s2 d ho];exact hs
 ·rw[s2 d ho];intro n hn;rw[s3];exact hk n hn
theorem CO(cg:Ok E σ w c)(dI:fy E σ a w c){o:fu}(hd:∀d,o.dst=ah d->d<a.tmps.size){nm:aE}{ob:Obj}{s:SV}{v:bn}{w':bM}{p:Pl}{g:aE->aE->Pl}
  (hn:σ (c9 nm)= .j9) (jt:nm<900000000)
  (na:∀c':eZ,c'.P nm=p->c'.G nm=g->(∀b,c.K b->c'.K b)->jE σ c c'->pU E w' c' nm ob)
  (pZ:∀c':eZ,c'.P nm=p->c'.G nm=g->∀b,fL c' nm ob b->w.heap.size<=b)
  (JJ:∀xs,ob= .box xs->∀a∈xs,jk σ a)
  (yP:∀c':eZ,c'.P nm=p->c'.G nm=g->jm E w' c' s v) (Bj:∀n∈cO s,n=nm\/σ (c9 n)≠ .j9)
  (hW:∀b,b<w.heap.size->w'.heap[b]? =w.heap[b]?) (gj:w.heap.size<=w'.heap.size) (PZ:w'.os=w.os) (Yo:w'.tape=w.tape) (Yi:w'.output=w.output)
  (hr:(execOp a.eval o).run P w= .ok (.value v) w'):gZ P E σ a w c o ((c9 nm, .o ob)::dw o s):=by
 intro K Q hK;let c':eZ:=⟨λn=>if n=nm then p else c.P n,λn=>if n=nm then g else c.G n,c.K⟩
 have hP:c'.P nm=p:=bA rfl;have hG:c'.G nm=g:=bA rfl;have hA:jE σ c c':=λm hm=>by
  have:m≠nm:=by rintro rfl;rcases hm with h|h;exact h hn;omega
  exact⟨bJ this,bJ this⟩
 let σ1:=pS σ (c9 nm) (.o ob);obtain⟨s1,s2,s3⟩:=sg σ1 o s;have key:∀m,wr σ1 (dw o s) (c9 m)=if m=nm then .o ob else σ (c9 m):=λm=>by rw[s3];exact qd _ _ _ _
 have iz:∀m,σ (c9 m)≠ .j9->wr σ1 (dw o s) (c9 m)≠ .j9:=λm hm=>by rw[key];split<;>simp_all
 have hh:=cg.change (σ':=wr σ1 (dw o s)) (w':=w') (c':=c') (λm=>m=nm) (λm hm=>by rw[key,bJ hm]) iz hA
  (λb hb _=>hW b hb) gj (λ_ h=>h) (λ_ h=> .inl h) (λb hb=>jy (cg.lt b hb) gj)
  (λm x hm ho=>by subst hm;rw[key,bA rfl]at ho;cases ho;exact na c' hP hG (λ_ h=>h) hA)
  (λm x b hm ho hf=>by subst hm;rw[key,bA rfl]at ho;cases ho;have:=pZ c' hP hG b hf;exact⟨.inr this,λhk=>by have:=cg.lt b hk;omega⟩)
  (λm x m' x' b hm xS _ _ _ _=>by rw[hm,xS])
  (λm xs hm ho y hy n kP=>by subst hm;rw[key,bA rfl]at ho;cases ho;exact iz n (JJ xs rfl y hy n kP)) PZ Yo Yi
 refine yJ hr (hK v w' c' hh.1 ?_ hh.2 hA.w);refine dI.change cg hh.2 hA iz o v (λn kP=>by rw[s1 n kP];exact js _ _ _ _) (λd ho=>⟨hd d ho, ?_, ?_⟩)
 ·show jm E w' c' (slot (wr σ1 (dw o s)) d) v;rw[s2 d ho];exact yP c' hP hG
 ·show mX (wr σ1 (dw o s)) (slot (wr σ1 (dw o s)) d);rw[s2 d ho];intro n kP;rw[key];split
  ·simp
  ·rename_i h;exact(Bj n kP).resolve_left h
theorem tI(cg:Ok E σ w c)(dI:fy E σ a w c){o:fu}(hd:∀d,o.dst=ah d->d<a.tmps.size){nm:aE}{ob ob':Obj}{s:SV}{v:bn}{w':bM}
  (hn:σ (c9 nm)= .o ob) (na:pU E w' c nm ob') (pZ:∀b,fL c nm ob' b->fL c nm ob b)
  (JJ:∀xs,ob'= .box xs->∀a∈xs,jk σ a)
  (yP:jm E w' c s v) (Bj:mX σ s)
  (hW:∀b,b<w.heap.size->¬fL c nm ob b->w'.heap[b]? =w.heap[b]?) (gj:w.heap.size<=w'.heap.size) (PZ:w'.os=w.os) (Yo:w'.tape=w.tape) (Yi:w'.output=w.output)
  (hr:(execOp a.eval o).run P w= .ok (.value v) w'\/((execOp a.eval o).run P w= .ok .skip w'/\v=undef)):gZ P E σ a w c o ([(c9 nm, .o ob')]++dw o s):=by
 intro K Q hK;let σ1:=pS σ (c9 nm) (.o ob');obtain⟨s1,s2,s3⟩:=sg σ1 o s;have key:∀m,wr σ1 (dw o s) (c9 m)=if m=nm then .o ob' else σ (c9 m):=λm=>by rw[s3];exact qd _ _ _ _
 have iz:∀m,σ (c9 m)≠ .j9->wr σ1 (dw o s) (c9 m)≠ .j9:=λm hm=>by rw[key];split<;>simp_all
 have gC:∀b,fL c nm ob b->ka (λm=>m=nm) σ c b:=λb hb=>⟨nm,ob,rfl,hn,hb⟩
 have hh:=cg.change (σ':=wr σ1 (dw o s)) (w':=w') (c':=c) (λm=>m=nm) (λm hm=>by rw[key,bJ hm]) iz (jE.refl _ _)
  (λb hb Yg=>hW b hb (λhf=>Yg (gC b hf))) gj (λ_ h=>h) (λ_ h=> .inl h) (λb hb=>jy (cg.lt b hb) gj)
  (λm x hm ho=>by subst hm;rw[key,bA rfl]at ho;cases ho;exact na)
  (λm x b hm ho hf=>by subst hm;rw[key,bA rfl]at ho;cases ho;exact⟨.inl (gC b (pZ b hf)),cg.kk _ _ b hn (pZ b hf)⟩)
  (λm x m' x' b hm xS _ _ _ _=>by rw[hm,xS])
  (λm xs hm ho y hy n kP=>by subst hm;rw[key,bA rfl]at ho;cases ho;exact iz n (JJ xs rfl y hy n kP)) PZ Yo Yi
 have akp:fy E (wr σ1 (dw o s)) (a.put o.dst v) w' c:=by
  refine dI.change cg hh.2 (jE.refl _ _) iz o v (λn kP=>by rw[s1 n kP];exact js _ _ _ _) (λd ho=>⟨hd d ho, ?_, ?_⟩)
  ·rw[s2 d ho];exact yP
  ·rw[s2 d ho];intro n kP;rw[key];split
   ·simp
   ·exact Bj n kP
 rcases hr with hr|⟨hr,rfl⟩
 ·exact yJ hr (hK v w' c hh.1 akp hh.2 (jE.refl _ _).w)
 ·exact DG hr (hK undef w' c hh.1 akp hh.2 (jE.refl _ _).w)
end
end Go.FG

namespace Go.FG
theorem afn:∀{x y:Ck},ckB x y=ai->x=y:=by intro x y h;cases x<;>cases y<;>simp[ckB]at h<;>first|rfl|(subst h;rfl)|(have:=aW h;subst this;rfl)
theorem rR:∀{a b:az Ck},qq a b=ai->a=b
 |[],[],_=>rfl
 |[],_::_,h=>by simp[qq]at h
 |_::_,[],h=>by simp[qq]at h
 |x::l,y::r,h=>by
  simp only[qq,aM]at h;rw[afn h.1,rR h.2]
structure asU (E:fT) (w:bM) (K:aE->Prop) (b o n c e:aE) (xs:aQ) (ti:TI) (U:aE->aE->bn):Prop where
 nn:n=xs.length
 ty:E.ty e=ah ti
 cap:xs.length<=c
 mx:c<=maxLen
 kb:K b
 sh:∀y∈xs,y.map CV.kd=ti.ks
 cell:∀i j y x,xs[i]? =ah y->y[j]? =ah x->w.cell? (ad b (o+i*ti.ks.length+j))=ah (U i j)
 inn:∀i j y x,xs[i]? =ah y->y[j]? =ah x->da E w K (U i j) x
theorem da.JW{E:fT}{w:bM}{K:aE->Prop}{b o n c e:aE}{xs:aQ}(h:da E w K (.slice (ah (ad b o)) n c) (.l e xs))(hn:0<xs.length):∃ti U,asU E w K b o n c e xs ti U:=by
 generalize hv:Value.slice (ah (ad b o)) n c=v at h;generalize hx:CV.l e xs=x at h;cases h with
 |i=>cases hx
 |b=>cases hx
 |s=>cases hx
 |nl=>cases hx;simp at hn
 |l e xs b o c ti U ht hc hm hK hs hcell gC=>cases hx;cases hv;exact⟨ti,U,rfl,ht,hc,hm,hK,hs,hcell,gC⟩
theorem Li{E:fT}{w:bM}{c:eZ}{u:bn}{x:CV}(h:da E w c.K u x):eF E w c (dec x.kd x) u:=by
 cases x with
 |i k n=>cases h;rfl
 |b=>cases h;rfl
 |s=>cases h with|s _ ho=>exact⟨rfl,ho⟩
 |l e xs=>exact h
theorem Oh{E:fT}{w:bM}{c:eZ}{u:bn}{x:CV}(h:da E w c.K u x):eF E w c (ZQ x) u:=by
 cases x with
 |i k n=>cases h;rfl
 |b=>cases h;rfl
 |s=>cases h with|s _ ho=>exact⟨rfl,ho⟩
 |l e xs=>exact h
theorem po{E:fT}{w:bM}{c:eZ}{u:bn}{x:CV}(hl:uI x=ak)(h:Sc u x):eF E w c (dec x.kd x) u:=by
 cases x with
 |i=>exact h.1
 |b=>exact h.1
 |s=>exact h
 |l=>simp[uI]at hl
theorem Qd(k:Ck)(x:CV):bR (dec k x)=[]:=by cases k<;>rfl
theorem C0(x:CV):bR (ZQ x)=[]:=by cases x<;>rfl
theorem l8(xs:aQ)(i:aE):∀(ks:az Ck) (j q:aE),(vj xs i j ks)[q]? =(ks[q]?).map λk=>dec k (ar xs i (j+q)):=by
 intro ks;induction ks with
 |nil=>intro j q;simp[vj]
 |cons k ks ih=>
  intro j q;cases q with
  |zero=>simp[vj]
  |succ q=>simp only[vj,dM,ih];congr 2;funext k;congr 2;omega
theorem Jn(nm:aE)(xs:aQ)(i:aE):∀(ks:az Ck) (j q:aE),(Be nm xs i j ks)[q]? =(ks[q]?).map λk=>match k with| .l _=>AV.inn nm i (j+q)|k=>dec k (ar xs i (j+q)):=by
 intro ks;induction ks with
 |nil=>intro j q;simp[Be]
 |cons k ks ih=>
  intro j q;cases q with
  |zero=>cases k<;>simp[Be]
  |succ q=>
   have e:j+1+q=j+(q+1):=by omega
   cases k<;>simp only[Be,dM,ih,e]
theorem fC{xs:aQ}{i j:aE}{y:az CV}{x:CV}(hi:xs[i]? =ah y)(hj:y[j]? =ah x):ar xs i j=x:=by simp[ar,kA,hi,hj]
theorem kS(xs:aQ)(i:aE):∀(ks:az Ck) (j:aE),(vj xs i j ks).length=ks.length:=by
 intro ks;induction ks with
 |nil=>intro j;rfl
 |cons k ks ih=>intro j;simp[vj,ih]
theorem AD(nm:aE)(xs:aQ)(i:aE):∀(ks:az Ck) (j:aE),(Be nm xs i j ks).length=ks.length:=by
 intro ks;induction ks with
 |nil=>intro j;rfl
 |cons k ks ih=>intro j;cases k<;>simp[Be,ih]
theorem qT{ks ks2:az Ck}{j:aE}{y:az CV}(hy:y.map CV.kd=ks)(h:(ks.drop j).take ks2.length=ks2){q:aE}(hq:q<ks2.length):∃x,y[j+q]? =ah x/\ks2[q]? =ah x.kd:=by
 have h1:ks2[q]? =ks[j+q]? :=by rw[<-h,d_,bA hq,dQ]
 rw[<-hy,bL]at h1;cases hx:y[j+q]? with
 |none=>rw[hx]at h1;simp at h1;omega
 |some x=>exact⟨x,rfl,by rw[h1,hx];rfl⟩
section
variable {P:cZ} {E:fT} {σ:St} {a:Act} {w:bM} {c:eZ}
theorem uP{p:Pl}{G:aE->aE->Pl}{xs:aQ}{ks:az Ck}{i j e2:aE}(gi:jl w p xs (λi j u x=>if ai=ai then XC E w G i j u x else da E w c.K u x))(mT:∀y∈xs,y.map CV.kd=ks)(hi:i<p.n)(hk:ks[j]? =ah (.l e2)):
  ∃ys y,xs[i]? =ah y/\y[j]? =ah (.l e2 ys)/\∃u,XC E w G i j u (.l e2 ys):=by
 have mm:i<xs.length:=by rw[<-gi.n];exact hi
 have hy:xs[i]? =ah xs[i]:=by simp[mm]
 have h1:=mT xs[i] (bB mm);rw[<-h1,bL]at hk;cases hx:xs[i][j]? with
 |none=>rw[hx]at hk;cases hk
 |some x=>
  rw[hx]at hk;cases x with
  |l e ys=>
   cases hk;have jA:p.nil=false:=by
    cases hn:p.nil with
    |false=>rfl
    |true=>have:=(gi.nil hn).1;subst this;simp at mm
   obtain⟨vals,_,_,_,_,n_⟩:=gi.mem jA;obtain⟨u,_,hr⟩:=n_ i _ j _ hy hx;rw[bA rfl]at hr;exact⟨ys,_,hy,hx,u,hr⟩
  |i=>cases hk
  |b=>cases hk
  |s=>cases hk
theorem iv{ks:az Ck}(h:plain ks=ai){y:az CV}(hy:y.map CV.kd=ks){j:aE}{x:CV}(hx:y[j]? =ah x):uI x=false:=by
 have h1:x.kd∈ks:=by rw[<-hy];exact cU.2 ⟨x,aR hx,rfl⟩
 have h2:=bu.1 h _ h1;cases x<;>simp_all [CV.kd,uI]
structure SJ (E:fT) (σ:St) (w:bM) (c:eZ) (ti:TI) (v:bn) (xs:az AV):Prop where
 ex:∃(b o:aE) (cs:az bn),v= .pointer (ah (ad b o))/\cs.length=ti.ks.length/\(∀(j:aE) (u:bn),cs[j]? =ah u->w.cell? (ad b (o+j))=ah u)/\
  xs.length=ti.ks.length/\(∀(j:aE) (x:AV),xs[j]? =ah x->∃u:bn,cs[j]? =ah u/\eF E w c x u)
 kn:∀x∈xs,jk σ x
theorem mK{ti:TI}{b o:aE}{xs:az AV}(hl:xs.length=ti.ks.length)(h:∀(j:aE) (x:AV),xs[j]? =ah x->∃u:bn,w.cell? (ad b (o+j))=ah u/\eF E w c x u)(hk:∀x∈xs,jk σ x):
  SJ E σ w c ti (.pointer (ah (ad b o))) xs:=by
 refine⟨⟨b,o,(b8 xs.length).map (λj=>(w.cell? (ad b (o+j))).getD undef),rfl,by simp[hl], ?_,hl, ?_⟩,hk⟩
 ·intro j u hu;simp only[bL]at hu;by_cases hj:j<xs.length
  ·obtain⟨u',sF,_⟩:=h j xs[j] (by simp[hj]);simp only[hj,vR,ji,sF,y_,jC]at hu;rw[sF,hu]
  ·simp[lh (l:=b8 xs.length) (by simpa using hj)]at hu
 ·intro j x hx;obtain⟨u,hu,hv⟩:=h j x hx;refine⟨u, ?_,hv⟩
  have hj:j<xs.length:=(aT.1 hx).1;simp[hj,hu]
theorem Ut(cg:Ok E σ w c){ti:TI}{p:AV}{v:bn}{xs:az AV}(hp:eF E w c p v)(h:(tP E ti p).val σ=ah xs):SJ E σ w c ti v xs:=by
 have ZO:∀(n:aE) (k:Ck) (x:CV),n∈bR (dec k x)->σ (c9 n)≠ .j9:=λn k x hn=>by rw[Qd]at hn;simp at hn
 cases p with
 |bp nm j=>
  obtain⟨o,ho,h2⟩:=Rd.bind_some h;have na:=cg.obj nm o (dz ho);obtain rfl:v=_:=hp;cases o with
  |box ys=>
   obtain⟨hle,h3⟩:=cR h2;have hle:=cM hle;obtain rfl:=aJ h3;obtain⟨vals,hb,hs,hc⟩:=na;refine mK (by simp;omega) (λq x hx=> ?_) (λx hx=>cg.kn nm ys (dz ho) x (lj (lk hx)));rw[d_]at hx;split at hx
   ·rw[dQ]at hx;obtain⟨u,hu,hv⟩:=hc (j+q) x hx;exact⟨u,(hb.cell (j+q)).trans hu,hv⟩
   ·cases hx
  |oe cs=>
   obtain⟨hle,h3⟩:=cR h2;have hle:=cM hle;obtain rfl:=aJ h3;refine mK (by simp;omega) (λq x hx=> ?_) (λx hx=> ?_)
   ·rw[bL,d_]at hx;split at hx
    ·rw[dQ]at hx;cases hy:cs[j+q]? with
     |none=>rw[hy]at hx;cases hx
     |some y=>rw[hy]at hx;cases hx;obtain⟨u,hu,hv⟩:=na.2 (j+q) y hy;exact⟨u,hu,Oh hv⟩
    ·cases hx
   ·obtain⟨y,_,rfl⟩:=cU.1 hx;intro n hn;rw[C0]at hn;simp at hn
  |row=>simp at h2
  |fW=>simp at h2
  |dead=>simp at h2
 |fp cs j=>
  obtain⟨hle,h3⟩:=cR h;have hle:=cM hle;obtain rfl:=aJ h3;obtain⟨b,rfl,hb⟩:=hp;refine mK (by simp;omega) (λq x hx=> ?_) (λx hx=> ?_)
  ·rw[bL,d_]at hx;split at hx
   ·rw[dQ]at hx;cases hy:cs[j+q]? with
    |none=>rw[hy]at hx;cases hx
    |some y=>rw[hy]at hx;cases hx;obtain⟨u,hu,hv⟩:=hb.2 (j+q) y hy;exact⟨u,hu,Oh hv⟩
   ·cases hx
  ·obtain⟨y,_,rfl⟩:=cU.1 hx;intro n hn;rw[C0]at hn;simp at hn
 |sp e ys i j=>
  obtain⟨te,ht,h2⟩:=Rd.bind_some h;have ht:=dX ht;obtain⟨hk,h3⟩:=cR h2;have hk:=rR hk;obtain rfl:=aJ h3;obtain⟨b,o,cp,ti2,hh,hi,HK,rfl⟩:=hp;obtain rfl:te=ti2:=aJ (ht.symm.trans HK);refine mK (kS _ _ _ _) (λq x hx=> ?_) (λx hx=> ?_)
  ·rw[l8]at hx;obtain⟨ti3,U,hL⟩:=hh.JW (by omega);obtain rfl:te=ti3:=aJ (ht.symm.trans hL.ty);have hq:q<ti.ks.length:=by
    cases hq:ti.ks[q]? with
    |none=>rw[hq]at hx;cases hx
    |some k=>exact(aT.1 hq).1
   have hy:ys[i]? =ah ys[i]:=by simp[hi]
   obtain⟨z,hz,wj⟩:=qT (hL.sh ys[i] (bB hi)) hk hq;rw[wj]at hx;cases hx;rw[fC hy hz];exact⟨U i (j+q),by have:=hL.cell i (j+q) _ z hy hz;rwa[show o+i*te.ks.length+j+q=o+i*te.ks.length+(j+q)by omega],Li (hL.inn i (j+q) _ z hy hz)⟩
  ·obtain⟨q,hq⟩:=b7 hx;rw[l8]at hq;cases wj:ti.ks[q]? with
   |none=>rw[wj]at hq;cases hq
   |some k=>rw[wj]at hq;cases hq;intro n hn;exact ZO n _ _ hn
 |rp nm i j=>
  obtain⟨o,ho,h2⟩:=Rd.bind_some h;have ho:=dz ho;have na:=cg.obj nm o ho;obtain⟨hi,rfl⟩:=hp;cases o with
  |row e ex ys=>
   obtain⟨te,ht,h2⟩:=Rd.bind_some h2;have ht:=dX ht;obtain⟨hk,h3⟩:=cR h2;have hk:=rR hk;have h3:(ex=ai/\plain ti.ks=ai/\xs=vj ys i j ti.ks)\/((ex=ak\/zP nm=ak)/\xs=bif ex then Be nm ys i j ti.ks else vj ys i j ti.ks):=by
    cases hF:(ex&&zP nm)with
    |true=>rw[hF,au]at h3;obtain⟨s8,h3⟩:=cR h3;rw[aM]at hF;exact .inl ⟨hF.1,s8,(aJ h3).symm⟩
    |false=>
     rw[hF,aw]at h3;refine .inr ⟨?_,(aJ h3).symm⟩;cases ex with
     |false=>exact .inl rfl
     |true=>exact .inr (by simpa using hF)
   obtain⟨⟨ti2,HK,gj,mT⟩,gi,_⟩:=na;obtain rfl:te=ti2:=aJ (ht.symm.trans HK);have jA:(c.P nm).nil=false:=by
    cases hn:(c.P nm).nil with
    |false=>rfl
    |true=>have:=(gi.nil hn).1;subst this;rw[gi.n]at hi;simp at hi
   obtain⟨vals,hb,TB,_,mQ,n_⟩:=gi.mem jA;have mm:i<ys.length:=by rw[<-gi.n];exact hi
   have hy:ys[i]? =ah ys[i]:=by simp[mm]
   rcases h3 with ⟨rfl,s8,rfl⟩|h3
   ·refine mK (kS _ _ _ _) (λq x hx=> ?_) (λx hx=> ?_)
    ·have hq:q<ti.ks.length:=by have:=(aT.1 hx).1;simpa [kS]using this
     obtain⟨z,hz,wj⟩:=qT (mT ys[i] (bB mm)) hk hq;obtain⟨u,hu,hr⟩:=n_ i _ (j+q) z hy hz;rw[bA rfl]at hr;rw[l8,wj]at hx;cases hx;refine⟨u, ?_, ?_⟩
     ·rw[hb.cell];rw[<-hu];congr 1;omega
     ·have hzk:=bu.1 s8 z.kd (aR wj);show eF E w c (dec z.kd (ar ys i (j+q))) u;rw[fC hy hz];cases z with
      |l e2 zs=>cases hzk
      |i k n=>exact po rfl hr
      |b t=>exact po rfl hr
      |s t=>exact po rfl hr
    ·obtain⟨q,hq⟩:=b7 hx;intro n hn;rw[l8]at hq;cases wj:ti.ks[q]? with
     |none=>rw[wj]at hq;cases hq
     |some k=>rw[wj]at hq;cases hq;exact ZO n _ _ hn
   obtain⟨hFn,rfl⟩:=h3;refine mK (by cases ex<;>simp[kS,AD]) (λq x hx=> ?_) (λx hx=> ?_)
   ·have hq:q<ti.ks.length:=by have:=(aT.1 hx).1;cases ex<;>simpa [kS,AD]using this
    obtain⟨z,hz,wj⟩:=qT (mT ys[i] (bB mm)) hk hq;obtain⟨u,hu,hr⟩:=n_ i _ (j+q) z hy hz;refine⟨u, ?_, ?_⟩
    ·rw[hb.cell];rw[<-hu];congr 1;omega
    ·cases ex with
     |false=>rw[bJ (by simp)]at hr;have hx:(vj ys i j ti.ks)[q]? =ah x:=hx;rw[l8,wj]at hx;cases hx;rw[fC hy hz];exact Li hr
     |true=>
      rw[bA rfl]at hr;have hx:(Be nm ys i j ti.ks)[q]? =ah x:=hx;rw[Jn,wj]at hx;cases z with
      |l e2 zs=>cases hx;exact⟨⟨hi,hr.1⟩,hFn.resolve_left (by simp)⟩
      |i k n=>cases hx;rw[fC hy hz];exact po rfl hr
      |b t=>cases hx;rw[fC hy hz];exact po rfl hr
      |s t=>cases hx;rw[fC hy hz];exact po rfl hr
   ·obtain⟨q,hq⟩:=b7 hx;intro n hn;cases ex with
    |false=>
     have hq:(vj ys i j ti.ks)[q]? =ah x:=hq;rw[l8]at hq;cases wj:ti.ks[q]? with
     |none=>rw[wj]at hq;cases hq
     |some k=>rw[wj]at hq;cases hq;exact ZO n _ _ hn
    |true=>
     have hq:(Be nm ys i j ti.ks)[q]? =ah x:=hq;rw[Jn]at hq;cases wj:ti.ks[q]? with
     |none=>rw[wj]at hq;cases hq
     |some k=>
      rw[wj]at hq;cases k with
      |l e2=>cases hq;simp[bR]at hn;subst hn;rw[ho];simp
      |i=>cases hq;exact ZO n _ _ hn
      |b=>cases hq;exact ZO n _ _ hn
      |s=>cases hq;exact ZO n _ _ hn
      |o=>cases hq;exact ZO n _ _ hn
  |fW e ys=>
   obtain⟨te,ht,h2⟩:=Rd.bind_some h2;have ht:=dX ht;obtain⟨hk,h3⟩:=cR h2;have hk:=rR hk;obtain rfl:=aJ h3;obtain⟨hh,hn,ti2,HK,gj⟩:=na;obtain rfl:te=ti2:=aJ (ht.symm.trans HK);have mm:i<ys.length:=by rw[<-hn];exact hi
   have hy:ys[i]? =ah ys[i]:=by simp[mm]
   have jA:(c.P nm).nil=false:=by
    cases hq:(c.P nm).nil with
    |false=>rfl
    |true=>unfold l_ at hh;rw[bA hq]at hh;cases hh;simp at mm
   unfold l_ at hh;rw[bJ (by simp[jA]),hn]at hh;refine mK (kS _ _ _ _) (λq x hx=> ?_) (λx hx=> ?_)
   ·rw[l8]at hx;obtain⟨ti3,U,hL⟩:=hh.JW (by omega);obtain rfl:te=ti3:=aJ (ht.symm.trans hL.ty);have hq:q<ti.ks.length:=by
     cases hq:ti.ks[q]? with
     |none=>rw[hq]at hx;cases hx
     |some k=>exact(aT.1 hq).1
    obtain⟨z,hz,wj⟩:=qT (hL.sh ys[i] (bB mm)) hk hq;rw[wj]at hx;cases hx;rw[fC hy hz];exact⟨U i (j+q),by have:=hL.cell i (j+q) _ z hy hz;rw[<-this];congr 2;rw[gj];omega,Li (hL.inn i (j+q) _ z hy hz)⟩
   ·obtain⟨q,hq⟩:=b7 hx;rw[l8]at hq;cases wj:ti.ks[q]? with
    |none=>rw[wj]at hq;cases hq
    |some k=>rw[wj]at hq;cases hq;intro n hn;exact ZO n _ _ hn
  |box=>simp at h2
  |oe=>simp at h2
  |dead=>simp at h2
 |ip nm i j i2 j2=>
  obtain⟨o,ho,h2⟩:=Rd.bind_some h;have ho:=dz ho;have na:=cg.obj nm o ho;obtain⟨⟨kI,hi,rfl⟩,hFp⟩:=hp;cases o with
  |row e ex ys=>
   cases ex with
   |false=>simp at h2
   |true=>
    obtain⟨te,ht,h2⟩:=Rd.bind_some h2;have ht:=dX ht;split at h2
    ·rename_i e2 Az;obtain⟨t2,HK,h2⟩:=Rd.bind_some h2;have HK:=dX HK;obtain⟨hk,h3⟩:=cR h2;have hk:=rR hk;obtain rfl:=aJ h3;obtain⟨⟨tj,htj,gj,mT⟩,gi,_⟩:=na;obtain rfl:te=tj:=aJ (ht.symm.trans htj);obtain⟨zs,y,hy,hyj,uu,_,tk,HL,s8,LN,Er,oU⟩:=uP (c:=c) gi mT kI Az;obtain rfl:t2=tk:=aJ (HK.symm.trans HL);rw[fC hy hyj];refine mK (kS _ _ _ _) (λq x hx=> ?_) (λx hx=> ?_)
     ·rw[l8]at hx;have hq:q<ti.ks.length:=by
       cases hq:ti.ks[q]? with
       |none=>rw[hq]at hx;cases hx
       |some k=>exact(aT.1 hq).1
      have sE:i2<zs.length:=by rw[<-oU.n];exact hi
      have CS:(c.G nm i j).nil=false:=by
       cases hn:(c.G nm i j).nil with
       |false=>rfl
       |true=>have:=(oU.nil hn).1;subst this;simp at sE
      obtain⟨vals,hb,_,_,_,n_⟩:=oU.mem CS;have hzi:zs[i2]? =ah zs[i2]:=by simp[sE]
      obtain⟨z,hz,wj⟩:=qT (Er zs[i2] (bB sE)) hk hq;obtain⟨u,hu,hr⟩:=n_ i2 _ (j2+q) z hzi hz;rw[wj]at hx;cases hx;refine⟨u, ?_, ?_⟩
      ·rw[hb.cell,<-hu];congr 1;omega
      ·show eF E w c (dec z.kd (ar zs i2 (j2+q))) u;rw[fC hzi hz];exact po (iv s8 (Er _ (bB sE)) hz) hr
     ·obtain⟨q,hq⟩:=b7 hx;rw[l8]at hq;cases wj:ti.ks[q]? with
      |none=>rw[wj]at hq;cases hq
      |some k=>rw[wj]at hq;cases hq;intro n hn;exact ZO n _ _ hn
    ·simp at h2
  |fW=>simp at h2
  |box=>simp at h2
  |oe=>simp at h2
  |dead=>simp at h2
 |i=>simp[tP]at h
 |b=>simp[tP]at h
 |s=>simp[tP]at h
 |sh=>simp[tP]at h
 |nl=>simp[tP]at h
 |own=>simp[tP]at h
 |vw=>simp[tP]at h
 |inn=>simp[tP]at h
 |fn=>simp[tP]at h
end
end Go.FG

namespace Go.FG
section
variable {P:cZ} {E:fT} {σ:St} {a:Act} {w:bM} {c:eZ} {o:fu} {nm:aE} {e:tc}
theorem i_{s:Sem bn}{v:bn}{w':bM}(hr:s.run P w= .ok v w'):(do pure (Next.value (<-s)):Sem Next).run P w= .ok (.value v) w':=by simp only[cj,hr,bI,cT]
theorem fZ(cg:Ok E σ w c)(dI:fy E σ a w c)(hd:∀d,o.dst=ah d->d<a.tmps.size){s:SV}{v:bn}(h:(val o s).val σ=ah e)(hs:jm E w c s v)(hk:mX σ s)(hr:(execOp a.eval o).run P w= .ok (.value v) w):gZ P E σ a w c o e.ws:=by obtain rfl:=aJ h;exact gL cg dI hd hs hk hr
theorem F_(cg:Ok E σ w c)(dI:fy E σ a w c)(hd:∀d,o.dst=ah d->d<a.tmps.size){b:aU}{x:AV}{v:bn}(h:(My o b x).val σ=ah e)(hc:e.cond=ai)(hs:b=ai->eF E w c x v)(hk:jk σ x)(hr:b=ai->(execOp a.eval o).run P w= .ok (.value v) w):gZ P E σ a w c o e.ws:=by obtain rfl:=aJ h;have hc:b=true:=hc;exact gL cg dI hd (hs hc) (λn hn=>hk n (by simpa [cO]using hn)) (hr hc)
theorem uJ{σ:St}{x:AV}(h:bR x=[]):jk σ x:=λn hn=>by rw[h]at hn;simp at hn
theorem Ol(cg:Ok E σ w c)(dI:fy E σ a w c)(hd:∀d,o.dst=ah d->d<a.tmps.size){x:dy}(ho:o.op= .move x\/o.op= .assign x)(h:(mo E nm o).val σ=ah e):gZ P E σ a w c o e.ws:=by
 have h':((H3 x).bind λv=>val o v).val σ=ah e:=by rcases ho with ho|ho<;>simpa [mo,ho]using h
 obtain⟨v,h1,h2⟩:=Rd.bind_some h';obtain⟨hv,hk⟩:=mD dI h1;refine fZ cg dI hd h2 hv hk ?_;rcases ho with ho|ho<;>(unfold execOp;rw[ho];rfl)
theorem J_(cg:Ok E σ w c)(dI:fy E σ a w c)(hd:∀d,o.dst=ah d->d<a.tmps.size){x:dy}(ho:o.op= .nilCheck x)(h:(mo E nm o).val σ=ah e):gZ P E σ a w c o e.ws:=by
 simp only[mo,ho]at h;obtain⟨p,h1,h⟩:=Rd.bind_some h;obtain⟨ex,kx⟩:=jc dI h1;cases p with
 |bp n j=>have uG:a.eval x= .pointer (ah (ad (c.P n).blk j)):=ex;refine fZ cg dI hd h (v:=a.eval x) ex (λn hn=>kx n (by simpa [cO]using hn)) ?_;unfold execOp;rw[ho];simp only[uG];rfl
 |rp n i j=>have uG:a.eval x= .pointer (ah (ad (c.P n).blk ((c.P n).off+i*(c.P n).sz+j))):=ex.2;refine fZ cg dI hd h (v:=a.eval x) ex (λn hn=>kx n (by simpa [cO]using hn)) ?_;unfold execOp;rw[ho];simp only[uG];rfl
 |_=>cases h
theorem ZZ(cg:Ok E σ w c)(dI:fy E σ a w c)(hd:∀d,o.dst=ah d->d<a.tmps.size){x y z:dy}(ho:o.op= .pick x y z)(h:(mo E nm o).val σ=ah e)(hc:e.cond=ai):gZ P E σ a w c o e.ws:=by
 simp only[mo,ho]at h;obtain⟨cx,h1,h⟩:=Rd.bind_some h;obtain⟨vy,h2,h⟩:=Rd.bind_some h;obtain⟨vz,h3,h⟩:=Rd.bind_some h;obtain⟨ex,kx⟩:=jc dI h1;obtain⟨ey,ky⟩:=mD dI h2;obtain⟨ez,kz⟩:=mD dI h3;have run:∀b,a.eval x= .bool b->(execOp a.eval o).run P w= .ok (.value (if b then a.eval y else a.eval z)) w:=by intro b hb;unfold execOp;rw[ho];simp only[hb,asBool,cj,cT,bI]
 cases cx with
 |b b=>
  replace ex:a.eval x= .bool b:=ex;have both:∀p q,vy= .v ak [.b p]->vz= .v ak [.b q]->gZ P E σ a w c o e.ws:=by
   rintro p q rfl rfl;refine fZ cg dI hd h (v:=if b then a.eval y else a.eval z) ?_ (λn hn=>by simp[cO,bR]at hn) (run b ex);cases b
   ·exact ez
   ·exact ey
  have lft:vy= .kq []->gZ P E σ a w c o e.ws:=by
   rintro rfl;replace h:(Rd.ret (⟨!b,dw o vz⟩:tc)).val σ=ah e:=by cases vz<;>exact h
   obtain rfl:=aJ h;have hb:b=false:=by simpa using hc
   subst hb;exact gL cg dI hd ez kz (run ak ex)
  have rgt:vz= .kq []->vy≠ .kq []->gZ P E σ a w c o e.ws:=by
   rintro rfl iz;replace h:(Rd.ret (⟨b,dw o vy⟩:tc)).val σ=ah e:=by
    cases vy with
    |un=>exact h
    |kq l=>cases l with
     |nil=>exact cL rfl iz
     |cons=>exact h
    |v g xs=>cases g<;>(rcases xs with _|⟨⟨⟩,_|⟨_,_⟩⟩<;>exact h)
   obtain rfl:=aJ h;have hb:b=true:=hc;subst hb;exact gL cg dI hd ey ky (run ai ex)
  cases vy with
  |un=>cases vz with
   |un=>simp at h
   |kq l=>cases l with
    |nil=>exact rgt rfl (by simp)
    |cons=>simp at h
   |v=>simp at h
  |kq l=>cases l with
   |nil=>exact lft rfl
   |cons=>cases vz with
    |un=>simp at h
    |kq l2=>cases l2 with
     |nil=>exact rgt rfl (by simp)
     |cons=>simp at h
    |v=>simp at h
  |v g xs=>cases vz with
   |un=>simp at h
   |kq l2=>cases l2 with
    |nil=>exact rgt rfl (by simp)
    |cons=>simp at h
   |v g2 ys=>cases g<;>cases g2<;>rcases xs with _|⟨⟨⟩,_|⟨_,_⟩⟩<;>rcases ys with _|⟨⟨⟩,_|⟨_,_⟩⟩<;>first|(simp at h;done)|exact both _ _ rfl rfl
 |i=>simp at h
 |s=>simp at h
 |sh=>simp at h
 |nl=>simp at h
 |own=>simp at h
 |vw=>simp at h
 |bp=>simp at h
 |rp=>simp at h
 |sp=>simp at h
 |inn=>simp at h
 |ip=>simp at h
 |fn=>simp at h
 |fp=>simp at h
theorem ZY(hE:eA P E)(cg:Ok E σ w c)(dI:fy E σ a w c)(hd:∀d,o.dst=ah d->d<a.tmps.size){t:aE}{p:dy}(ho:o.op= .load t p)(h:(mo E nm o).val σ=ah e):gZ P E σ a w c o e.ws:=by
 simp only[mo,ho]at h;obtain⟨ti,h1,h⟩:=Rd.bind_some h;obtain⟨pv,h2,h⟩:=Rd.bind_some h;obtain⟨xs,h3,h⟩:=Rd.bind_some h;have ht:=dX h1;obtain⟨ep,_⟩:=jc dI h2;obtain⟨⟨b,of,cs,hv,hl,hcell,hlen,W4⟩,JJ⟩:=Ut cg ep h3;have hr:=Ds (P:=P) w hE ht hl hcell;refine fZ cg dI hd h (v:=if ti.agg=ai then .agg cs.toArray else cs.headD .nilIface) ?_ (λn hn=>by obtain⟨x,hx,hn⟩:=bQ.1 hn;exact JJ x hx n hn) ?_
 ·show qo E w c ti.agg xs _;cases uH:ti.agg with
  |true=>rw[bA rfl];exact⟨cs.toArray,rfl,by simp[hl,hlen],λj x hj=>by obtain⟨u,hu,hx⟩:=W4 j x hj;exact⟨u,by simpa using hu,hx⟩⟩
  |false=>
   obtain⟨d,_,_,hn⟩:=hE.desc t ti ht;have h1:ti.ks.length=1:=by rcases hn uH with ⟨k,h,_⟩|⟨h,_⟩|⟨h,_⟩|⟨e',h,_⟩|⟨h,_⟩<;>simp[h]
   obtain⟨x,rfl⟩:=g6.1 (hlen.trans h1);obtain⟨v,rfl⟩:=g6.1 (hl.trans h1);obtain⟨u,hu,hx⟩:=W4 0 x rfl;simp at hu;subst hu;simpa [qo]using hx
 ·unfold execOp;rw[ho];exact i_ (by rw[hv];exact hr)
theorem HZ(hE:eA P E)(cg:Ok E σ w c)(dI:fy E σ a w c)(hd:∀d,o.dst=ah d->d<a.tmps.size){t f:aE}{p:dy}(ho:o.op= .fieldAddr t p f)(h:(mo E nm o).val σ=ah e):gZ P E σ a w c o e.ws:=by
 simp only[mo,ho]at h;obtain⟨pv,h1,h⟩:=Rd.bind_some h;obtain⟨q,h2,h⟩:=Rd.bind_some h;obtain⟨ep,kp⟩:=jc dI h1;unfold Tj at h2;cases hf:E.fo t f with
 |none=>rw[hf]at h2;simp at h2
 |some r=>
  obtain⟨off,n⟩:=r;rw[hf]at h2;have run:∀b o',a.eval p= .pointer (ah (ad b o'))->(execOp a.eval o).run P w= .ok (.value (.pointer (ah (ad b (o'+off))))) w:=by intro b o' hp;unfold execOp;rw[ho];exact i_ (by rw[hp];exact Kj (P:=P) w hE hf b o')
  cases pv with
  |bp iE j=>obtain rfl:=aJ h2;exact fZ cg dI hd h (s:= .v ak [.bp iE (j+off)]) (v:= .pointer (ah (ad (c.P iE).blk (j+off)))) rfl (λn hn=>kp n (by simpa [cO,bR]using hn)) (run _ _ ep)
  |rp iE i j=>obtain rfl:=aJ h2;refine fZ cg dI hd h (s:= .v ak [.rp iE i (j+off)]) ?_ (λn hn=>kp n (by simpa [cO,bR]using hn)) (run _ _ ep.2);exact⟨ep.1,by rw[show(c.P iE).off+i*(c.P iE).sz+j+off=(c.P iE).off+i*(c.P iE).sz+(j+off)by omega]⟩
  |sp e2 xs i j=>obtain rfl:=aJ h2;obtain⟨b,o',cp,ti,e1,XV,e3,e4⟩:=ep;refine fZ cg dI hd h (s:= .v ak [.sp e2 xs i (j+off)]) ?_ (λn hn=>by simp[cO,bR]at hn) (run _ _ e4);exact⟨b,o',cp,ti,e1,XV,e3,by rw[show o'+i*ti.ks.length+j+off=o'+i*ti.ks.length+(j+off)by omega]⟩
  |ip iE i j i2 j2=>obtain rfl:=aJ h2;refine fZ cg dI hd h (s:= .v ak [.ip iE i j i2 (j2+off)]) ?_ (λn hn=>kp n (by simpa [cO,bR]using hn)) (run _ _ ep.1.2.2);exact⟨⟨ep.1.1,ep.1.2.1,by rw[show(c.G iE i j).off+i2*(c.G iE i j).sz+j2+off=(c.G iE i j).off+i2*(c.G iE i j).sz+(j2+off)by omega]⟩,ep.2⟩
  |fp cs j=>obtain rfl:=aJ h2;obtain⟨b,e1,XV⟩:=ep;exact fZ cg dI hd h (s:= .v ak [.fp cs (j+off)]) ⟨b,rfl,XV⟩ (λn hn=>by simp[cO,bR]at hn) (run _ _ e1)
  |i=>simp at h2
  |b=>simp at h2
  |s=>simp at h2
  |sh=>simp at h2
  |nl=>simp at h2
  |own=>simp at h2
  |vw=>simp at h2
  |inn=>simp at h2
  |fn=>simp at h2
theorem Mb(cg:Ok E σ w c)(dI:fy E σ a w c)(hd:∀d,o.dst=ah d->d<a.tmps.size){x:dy}{i:aE}(ho:o.op= .extract x i)(h:(mo E nm o).val σ=ah e):gZ P E σ a w c o e.ws:=by
 simp only[mo,ho]at h;obtain⟨v,h1,h⟩:=Rd.bind_some h;obtain⟨ev,kv⟩:=mD dI h1;split at h
 ·rename_i l;split at h
  ·rename_i agg xs hl;obtain⟨vs,e1,e2,e3⟩:=ev;obtain⟨u,hu,hv⟩:=e3 i agg xs hl;refine fZ cg dI hd h (v:=u) hv (λn hn=>kv n (bQ.2 ⟨(agg,xs),aR hl,hn⟩)) ?_;unfold execOp;rw[ho];refine i_ ?_;rw[e1];simp only[Instr.extract,hu];rfl
  ·simp at h
 ·simp at h
theorem Z0(cg:Ok E σ w c)(dI:fy E σ a w c)(hd:∀d,o.dst=ah d->d<a.tmps.size){x:dy}{op:UnOp}{t:aE}(ho:o.op= .unOp op t x)(h:(mo E nm o).val σ=ah e):gZ P E σ a w c o e.ws:=by
 simp only[mo,ho]at h;obtain⟨v,h1,h⟩:=Rd.bind_some h;obtain⟨ev,kv⟩:=jc dI h1;cases op with
 |not=>
  cases v with
  |b b=>refine fZ cg dI hd h (v:= .bool !b) rfl (λn hn=>by simp[cO,bR]at hn) ?_;unfold execOp;rw[ho];refine i_ ?_;rw[show a.eval x= .bool b from ev];rfl
  |_=>simp at h
 |neg=>
  cases v with
  |i k n=>refine fZ cg dI hd h (v:= .int k (k.wrap (0-n))) rfl (λn hn=>by simp[cO,bR]at hn) ?_;unfold execOp;rw[ho];refine i_ ?_;rw[show a.eval x= .int k n from ev];rfl
  |_=>simp at h
 |_=>cases v<;>simp at h
theorem rT{E:fT}{σ:St}{t:aE}{k:Ck}(h:(p_ E t).val σ=ah k):∃ti,E.ty t=ah ti/\ti.agg=ak/\ti.ks=[k]:=by
 obtain⟨ti,h1,h2⟩:=Rd.bind_some h;split at h2
 ·rename_i k' h3 h4;simp at h2;subst h2;exact⟨ti,dX h1,h3,h4⟩
 ·simp at h2
theorem kR{E:fT}{σ:St}(hE:eA P E){t e:aE}(h:(p_ E t).val σ=ah (.l e)):P.underlying t=ah (.slice e):=by obtain⟨ti,h1,h2,h3⟩:=rT h;exact pq hE h1 h2 h3
theorem lA{E:fT}{σ:St}(hE:eA P E){t:aE}(h:(p_ E t).val σ=ah .s):P.underlying t=ah .string:=by obtain⟨ti,h1,h2,h3⟩:=rT h;obtain⟨d,hd,_,hn⟩:=hE.desc t ti h1;rcases hn h2 with ⟨k,h,_⟩|⟨h,_⟩|⟨h,rfl⟩|⟨e',h,_⟩|⟨h,_⟩<;>rw[h3]at h<;>simp_all
theorem U6(hE:eA P E)(cg:Ok E σ w c)(dI:fy E σ a w c)(hd:∀d,o.dst=ah d->d<a.tmps.size){x y:dy}{t:aE}(ho:o.op= .index t x y)(h:(mo E nm o).val σ=ah e)(hc:e.cond=ai):gZ P E σ a w c o e.ws:=by
 simp only[mo,ho]at h;obtain⟨kk,h0,h⟩:=Rd.bind_some h;obtain⟨v,h1,h⟩:=Rd.bind_some h;obtain⟨⟨k,n⟩,h2,h⟩:=Rd.bind_some h;obtain⟨ev,kv⟩:=jc dI h1;have ei:=qa dI h2;cases kk with
 |s=>cases v with
  |s s=>
   have hu:=lA hE h0;refine F_ cg dI hd h hc (v:= .int .u8 ((s.data.getD n.toNat 0).toNat:ax)) (λ_=>rfl) (uJ rfl) (λhb=> ?_);simp only[aM,bh]at hb;obtain⟨h0,h3⟩:=hb;unfold execOp;rw[ho];refine i_ ?_;replace ev:a.eval x= .string s:=ev.1;have jt:n.toNat<s.size:=by omega
   have hg:s[n.toNat]? =ah s[n.toNat]:=by simp[jt]
   have hs:s[n.toNat]=s.data.getD n.toNat 0:=by rw[Array.getD,dif_pos (show n.toNat<s.data.size from jt)];rfl
   simp only[ev,ei,Instr.index,asIntOf,cj,cT,bI,run_underlying hu,h0,if_true,hg,hs]
  |_=>simp at h
 |_=>simp at h
end
end Go.FG

namespace Go.FG
section
variable {P:cZ} {E:fT} {σ:St} {a:Act} {w:bM} {c:eZ} {o:fu} {nm:aE} {e:tc}
theorem qL{α:Type}{b:aU}{x:α}{σ:St}{r:α}(h:(bif b then Rd.ret x else Rd.fail).val σ=ah r):b=ai/\r=x:=by obtain⟨h1,h2⟩:=cR h;exact⟨h1,(aJ h2).symm⟩
theorem e6{p:Pl}(h:p.nil=ak):l_ p= .slice (ah (ad p.blk p.off)) p.n p.cap:=by unfold l_;rw[bJ (by simp[h])]
theorem nN{p:Pl}(h:p.nil=ai):l_ p= .slice aj 0 0:=by unfold l_;rw[bA h]
theorem lC{nm e:aE}{ex:aU}{xs:aQ}(cg:Ok E σ w c)(h:σ (c9 nm)= .o (.row e ex xs)):
  (c.P nm).n=xs.length/\((c.P nm).nil=ai->xs=[])/\∃ti,E.ty e=ah ti/\(c.P nm).sz=ti.ks.length/\((c.P nm).nil=ak->(c.P nm).n<=(c.P nm).cap/\(c.P nm).cap<=maxLen):=by have na:=cg.obj nm _ h;obtain⟨ti,h1,h2,_⟩:=na.sh;exact⟨na.at_.n,λhn=>(na.at_.nil hn).1,ti,h1,h2,λhn=>by obtain⟨_,_,h3,h4,_⟩:=na.at_.mem hn;exact⟨h3,h4⟩⟩
theorem nc{nm e:aE}{xs:aQ}(cg:Ok E σ w c)(h:σ (c9 nm)= .o (.fW e xs)):
  (c.P nm).n=xs.length/\((c.P nm).nil=ai->xs=[])/\∃ti,E.ty e=ah ti/\(c.P nm).sz=ti.ks.length:=by
 obtain⟨h1,h2,h3⟩:=cg.obj nm _ h;refine⟨h2,λhn=> ?_,h3⟩
 rw[nN hn]at h1;cases h1;rfl
theorem H0(hE:eA P E)(cg:Ok E σ w c)(dI:fy E σ a w c)(hd:∀d,o.dst=ah d->d<a.tmps.size){x y:dy}{t:aE}(ho:o.op= .indexAddr t x y)(h:(mo E nm o).val σ=ah e)(hc:e.cond=ai):gZ P E σ a w c o e.ws:=by
 simp only[mo,ho]at h;obtain⟨kk,h0,h⟩:=Rd.bind_some h;cases kk with
 |l el=>
  obtain⟨v,h1,h⟩:=Rd.bind_some h;obtain⟨⟨k,n⟩,h2,h⟩:=Rd.bind_some h;obtain⟨⟨b,q⟩,h3,h⟩:=Rd.bind_some h;obtain⟨ev,kv⟩:=jc dI h1;have ei:=qa dI h2;have hu:=kR hE h0;have run:∀te b o' m cp,E.ty el=ah te->a.eval x= .slice (ah (ad b o')) m cp->0<=n->n<(m:ax)->(execOp a.eval o).run P w= .ok (.value (.pointer (ah (ad b (o'+n.toNat*te.ks.length))))) w:=by intro te b o' m cp LO hx h0 h1;unfold execOp;rw[ho];refine i_ ?_;rw[hx,ei];exact Kk (P:=P) w hE hu LO b o' m cp k n h0 h1
  cases v with
  |sh e' xs=>
   obtain⟨Ek,h3⟩:=qL h3;obtain⟨rfl,rfl⟩:=bY h3;have:=aW Ek;subst this;obtain rfl:=aJ h;have hc:(decide (0<=n)&&decide (n<(xs.length:ax)))=true:=hc;simp only[aM,bh]at hc;obtain⟨c0,c1⟩:=hc;have ev:da E w c.K (a.eval x) (.l el xs):=ev;generalize hv:a.eval x=v at ev;have iz:0<xs.length:=by omega
   cases ev with
   |nl=>simp at iz
   |l _ _ bb oo cc ti U ht PO hmx hK hs hcell gC=>exact gL cg dI hd (s:= .v ak [.sp el xs n.toNat 0]) (v:= .pointer (ah (ad bb (oo+n.toNat*ti.ks.length)))) ⟨bb,oo,cc,ti, .l el xs bb oo cc ti U ht PO hmx hK hs hcell gC,by omega,ht,rfl⟩ (λn hn=>by simp[cO,bR]at hn) (run ti bb oo _ cc ht hv c0 c1)
  |own iE=>
   obtain⟨ob,hg,h3⟩:=Rd.bind_some h3;have hg:=dz hg;have main:∀(xs:aQ),(c.P iE).n=xs.length->((c.P iE).nil=ai->xs=[])->(∃ti,E.ty el=ah ti/\(c.P iE).sz=ti.ks.length)->(b,q)=(decide (0<=n)&&decide (n<(xs.length:ax)),AV.rp iE n.toNat 0)->gZ P E σ a w c o e.ws:=by
    intro xs hn jA Yp hbq;obtain⟨rfl,rfl⟩:=bY hbq;obtain rfl:=aJ h;have hc:(decide (0<=n)&&decide (n<(xs.length:ax)))=true:=hc;simp only[aM,bh]at hc;obtain⟨c0,c1⟩:=hc;obtain⟨ti,ht,gj⟩:=Yp;have PX:(c.P iE).nil=false:=by
     cases hq:(c.P iE).nil with
     |false=>rfl
     |true=>rw[jA hq]at c1;simp at c1;omega
    have hx:a.eval x= .slice (ah (ad (c.P iE).blk (c.P iE).off)) (c.P iE).n (c.P iE).cap:=by rw[<-e6 PX];exact ev
    refine gL cg dI hd (s:= .v ak [.rp iE n.toNat 0]) (v:= .pointer (ah (ad (c.P iE).blk ((c.P iE).off+n.toNat*ti.ks.length)))) ⟨by omega,by rw[gj];rfl⟩ (λm hm=>by simp[cO,bR]at hm;subst hm;rw[hg];simp) (run ti _ _ _ _ ht hx c0 (by rw[hn];exact c1))
   cases ob with
   |row e' ex xs=>obtain⟨Ek,h4⟩:=qL h3;have:=aW Ek;subst this;obtain⟨i1,i2,ti,i3,i4,_⟩:=lC cg hg;exact main xs i1 i2 ⟨ti,i3,i4⟩ h4
   |fW e' xs=>obtain⟨Ek,h4⟩:=qL h3;have:=aW Ek;subst this;obtain⟨i1,i2,i3⟩:=nc cg hg;exact main xs i1 i2 i3 h4
   |_=>simp at h3
  |vw iE lo hi=>
   obtain⟨ob,hg,h3⟩:=Rd.bind_some h3;have hg:=dz hg;have main:∀(xs:aQ),(c.P iE).n=xs.length->(∃ti,E.ty el=ah ti/\(c.P iE).sz=ti.ks.length)->(b,q)=(decide (0<=n)&&decide (n<((hi-lo:aE):ax)),AV.rp iE (lo+n.toNat) 0)->gZ P E σ a w c o e.ws:=by
    intro xs hn Yp hbq;obtain⟨rfl,rfl⟩:=bY hbq;obtain rfl:=aJ h;have hc:(decide (0<=n)&&decide (n<((hi-lo:aE):ax)))=true:=hc;simp only[aM,bh]at hc;obtain⟨c0,c1⟩:=hc;obtain⟨ti,ht,gj⟩:=Yp;obtain⟨v1,v2,v3,v4⟩:=ev;have PX:(c.P iE).nil=false:=by
     cases hq:(c.P iE).nil with
     |false=>rfl
     |true=>
      obtain⟨f1,_⟩:(c.P iE).n=0/\True:=by
       have na:=cg.obj iE _ hg;rw[hn];cases ob with
       |row e' ex ys=>obtain⟨j1,j2,_⟩:=lC cg hg;rw[<-hn,j1,j2 hq];simp
       |fW e' ys=>obtain⟨j1,j2,_⟩:=nc cg hg;rw[<-hn,j1,j2 hq];simp
       |_=>simp at h3
      omega
    rcases v4 PX with ⟨u1,hx⟩|⟨u1,oo,u2,hx⟩
    ·refine gL cg dI hd (s:= .v ak [.rp iE (lo+n.toNat) 0]) (v:= .pointer (ah (ad (c.P iE).blk ((c.P iE).off+lo*(c.P iE).sz+n.toNat*ti.ks.length)))) ⟨by omega, ?_⟩ (λm hm=>by simp[cO,bR]at hm;subst hm;rw[hg];simp) (run ti _ _ _ _ ht hx c0 c1);rw[<-gj,show(c.P iE).off+(lo+n.toNat)*(c.P iE).sz+0=(c.P iE).off+lo*(c.P iE).sz+n.toNat*(c.P iE).sz by rw[dn];omega]
    ·exfalso;have PO:(c.P iE).n<=(c.P iE).cap:=by
      cases ob with
      |row e' ex ys=>obtain⟨_,_,_,_,_,j⟩:=lC cg hg;exact(j PX).1
      |fW e' ys=>
       obtain⟨j1,j2,_⟩:=cg.obj iE _ hg;rw[e6 PX]at j1;by_cases hz:0<ys.length
       ·obtain⟨t3,U,L⟩:=j1.JW hz;rw[j2];exact L.cap
       ·omega
      |_=>simp at h3
     omega
   cases ob with
   |row e' ex xs=>obtain⟨Ek,h4⟩:=qL h3;have:=aW Ek;subst this;obtain⟨i1,i2,ti,i3,i4,_⟩:=lC cg hg;exact main xs i1 ⟨ti,i3,i4⟩ h4
   |fW e' xs=>obtain⟨Ek,h4⟩:=qL h3;have:=aW Ek;subst this;obtain⟨i1,i2,i3⟩:=nc cg hg;exact main xs i1 i3 h4
   |_=>simp at h3
  |inn iE i j=>
   obtain⟨ob,hg,h3⟩:=Rd.bind_some h3;have hg:=dz hg;cases ob with
   |row e' ex xs=>
    cases ex with
    |false=>simp at h3
    |true=>
     obtain⟨te,ht,h3⟩:=Rd.bind_some h3;have ht:=dX ht;split at h3
     ·rename_i e2 Az;obtain⟨Ek,h3⟩:=qL h3;obtain⟨rfl,rfl⟩:=bY h3;have:=aW Ek;subst this;obtain rfl:=aJ h;obtain⟨⟨kI,hx⟩,hFv⟩:=ev;obtain⟨⟨tj,htj,gj,mT⟩,gi,_⟩:=cg.obj iE _ hg;obtain rfl:te=tj:=aJ (ht.symm.trans htj);obtain⟨zs,y',hy,hyj,uu,_,tk,HL,s8,LN,Er,oU⟩:=uP (c:=c) gi mT kI Az;have hc:(decide (0<=n)&&decide (n<((iX (ar xs i j)).length:ax)))=true:=hc;rw[fC hy hyj]at hc;simp only[aM,bh]at hc;obtain⟨c0,c1⟩:=hc;have c1:n<(zs.length:ax):=c1;have PX:(c.G iE i j).nil=false:=by
       cases hq:(c.G iE i j).nil with
       |false=>rfl
       |true=>have:=(oU.nil hq).1;subst this;simp at c1;omega
      rw[e6 PX]at hx;refine gL cg dI hd (s:= .v ak [.ip iE i j n.toNat 0]) (v:= .pointer (ah (ad (c.G iE i j).blk ((c.G iE i j).off+n.toNat*tk.ks.length)))) ⟨⟨kI,by rw[oU.n];omega,by rw[LN];rfl⟩,hFv⟩ (λm hm=>by simp[cO,bR]at hm;subst hm;rw[hg];simp) (run tk _ _ _ _ HL hx c0 (by rw[oU.n];exact c1))
     ·simp at h3
   |_=>simp at h3
  |_=>simp[TQ]at h3
 |_=>simp at h
end
end Go.FG

namespace Go.FG
section
variable {P:cZ} {E:fT} {σ:St} {a:Act} {w:bM} {c:eZ} {o:fu} {nm:aE} {e:tc}
theorem BP(dI:fy E σ a w c){x:aA dy}{d n:ax}(h:(oh x d).val σ=ah n):(x=aj/\n=d)\/∃y k,x=ah y/\a.eval y= .int k n:=by
 cases x with
 |none=>exact .inl ⟨rfl,(aJ h).symm⟩
 |some y=>obtain⟨⟨k,m⟩,h1,h2⟩:=Rd.bind_some h;obtain rfl:=aJ h2;exact .inr ⟨y,k,rfl,qa dI h1⟩
theorem F2{x:bn}{k:nA}{n:ax}{y:aE}{code:BoundsCode}(hx:x= .int k n)(h0:0<=n)(h1:n<=y):(qX x y code).run P w= .ok n.toNat w:=by subst hx;simp only[qX,asIntOf,cj,cT,bI,h0,h1,and_self,if_true]
theorem Dn(dI:fy E σ a w c){isS:aU}{len cap:aE}{lo hi:aA dy}{l h:ax}(hl:(oh lo 0).val σ=ah l)(hh:(oh hi len).val σ=ah h)(h0:0<=l)(h1:l<=h)(h2:h<=cap):
  (ni isS len cap (lo.map a.eval) (hi.map a.eval) aj).run P w= .ok (l.toNat,h.toNat,cap) w:=by
 have low:∀v,lo=ah v->∀code,(qX (a.eval v) h.toNat code).run P w= .ok l.toNat w:=by
  intro v hv code;rcases BP dI hl with ⟨hx,_⟩|⟨y,k,hx,hy⟩
  ·rw[hx]at hv;cases hv
  ·rw[hx]at hv;cases hv;exact F2 hy h0 (by omega)
 have high:∀v,hi=ah v->∀code,(qX (a.eval v) cap code).run P w= .ok h.toNat w:=by
  intro v hv code;rcases BP dI hh with ⟨hx,_⟩|⟨y,k,hx,hy⟩
  ·rw[hx]at hv;cases hv
  ·rw[hx]at hv;cases hv;exact F2 hy (by omega) h2
 have l0:lo=aj->l=0:=λhx=>by rcases BP dI hl with ⟨_,hn⟩|⟨y,k,hy,_⟩;exact hn;rw[hx]at hy;cases hy
 have W2:hi=aj->h=len:=λhx=>by rcases BP dI hh with ⟨_,hn⟩|⟨y,k,hy,_⟩;exact hn;rw[hx]at hy;cases hy
 cases lo with
 |none=>
  obtain rfl:=l0 rfl;cases hi with
  |none=>obtain rfl:=W2 rfl;simp[ni]
  |some v=>simp[ni,high v rfl]
 |some u=>
  cases hi with
  |none=>obtain rfl:=W2 rfl;have:=low u rfl;simp only[dK]at this;simp[ni,this]
  |some v=>simp[ni,high v rfl,low u rfl]
theorem Mk{t:aE}(hu:P.underlying t=ah .string)(dI:fy E σ a w c){lo hi:aA dy}{l h:ax}{s:aq}(hl:(oh lo 0).val σ=ah l)(hh:(oh hi s.size).val σ=ah h)(h0:0<=l)(h1:l<=h)(h2:h<=(s.size:ax)):
  (qB t (.string s) (lo.map a.eval) (hi.map a.eval) aj).run P w= .ok (.string (s.extract l.toNat h.toNat)) w:=by simp only[qB,Instr.slice,cj,run_underlying hu,bI,Option.isSome_none,dx,if_false,Dn (P:=P) dI hl hh h0 h1 h2,cT]
theorem kU{t el:aE}{te:TI}(hE:eA P E)(hu:P.underlying t=ah (.slice el))(he:E.ty el=ah te)(dI:fy E σ a w c){lo hi:aA dy}{l h:ax}{A:aA Addr}{n cp:aE}(hl:(oh lo 0).val σ=ah l)(hh:(oh hi n).val σ=ah h)(h0:0<=l)(h1:l<=h)(h2:h<=(cp:ax)):
  (qB t (.slice A n cp) (lo.map a.eval) (hi.map a.eval) aj).run P w= .ok (.slice (if cp=l.toNat then A else A.map (·.add (l.toNat*te.ks.length))) (h.toNat-l.toNat) (cp-l.toNat)) w:=by obtain⟨inf,mm,gj,_⟩:=hE.info el te he;simp only[qB,Instr.slice,cj,run_underlying hu,bI,Dn (P:=P) dI hl hh h0 h1 h2,sizeOf,typeInfo,program,nB,mm,gj,cT]
theorem uj{xs:aQ}{lo hi i:aE}:(eW xs lo hi)[i]? =if i<hi-lo then xs[lo+i]? else none:=by unfold eW;rw[d_];split<;>simp[dQ]
theorem mJ{xs:aQ}{lo hi:aE}(h:hi<=xs.length):(eW xs lo hi).length=hi-lo:=by unfold eW;simp;omega
theorem CZ{xs:aQ}{lo hi:aE}{y:az CV}(h:y∈eW xs lo hi):y∈xs:=lj (lk h)
theorem aeN{K:aE->Prop}{v:bn}{el:aE}{xs:aQ}{te:TI}(he:E.ty el=ah te)(h:da E w K v (.l el xs)){lo hi:aE}(h1:lo<=hi)(h2:hi<=xs.length):
  ∃A n cp,v= .slice A n cp/\n=xs.length/\n<=cp\/∃A cp,v= .slice A 0 cp/\xs=[]:=by
 cases h with
 |nl=>exact⟨aj,0,0, .inr ⟨_,_,rfl,rfl⟩⟩
 |l _ _ b oo cp ti U ht hc=>exact⟨_,_,_, .inl ⟨rfl,rfl,hc⟩⟩
theorem FI{K:aE->Prop}{A:aA Addr}{n cp el:aE}{xs:aQ}{te:TI}(he:E.ty el=ah te)(h:da E w K (.slice A n cp) (.l el xs)){lo hi:aE}(h1:lo<=hi)(h2:hi<=xs.length):
  n=xs.length/\da E w K (.slice (if cp=lo then A else A.map (·.add (lo*te.ks.length))) (hi-lo) (cp-lo)) (.l el (eW xs lo hi)):=by
 generalize hv:Value.slice A n cp=v at h;generalize hx:CV.l el xs=x at h;cases h with
 |i=>cases hx
 |b=>cases hx
 |s=>cases hx
 |nl=>
  cases hx;cases hv;have:hi=0:=by simpa using h2
  subst this;have:lo=0:=by omega
  subst this;exact⟨rfl, .nl _ _ _⟩
 |l _ _ b oo cp ti U ht hc hm hK hs hcell gC=>
  cases hx;cases hv;refine⟨rfl, ?_⟩
  obtain rfl:te=ti:=aJ (he.symm.trans ht);by_cases hz:hi-lo=0
  ·rw[hz];have:eW xs lo hi=[]:=by unfold eW;rw[hz];simp
   rw[this];exact .nl _ _ _
  ·rw[bJ (by omega)];simp only[ji,Addr.oc];have hl:=mJ (xs:=xs) (lo:=lo) h2;rw[<-hl];refine .l el (eW xs lo hi) b (oo+lo*te.ks.length) (cp-lo) te (λi j=>U (lo+i) j) ht (by rw[hl];omega) (by omega) hK (λy hy=>hs y (CZ hy)) (λi j y x mm hj=> ?_) (λi j y x mm hj=> ?_)
   ·rw[uj]at mm;split at mm
    ·have:=hcell (lo+i) j y x mm hj;rw[<-this];congr 2;rw[dn];omega
    ·cases mm
   ·rw[uj]at mm;split at mm
    ·exact gC (lo+i) j y x mm hj
    ·cases mm
theorem U7(hE:eA P E)(cg:Ok E σ w c)(dI:fy E σ a w c)(hd:∀d,o.dst=ah d->d<a.tmps.size){x:dy}{t:aE}{lo hi mx:aA dy}(ho:o.op= .slice t x lo hi mx)(h:(mo E nm o).val σ=ah e)(hc:e.cond=ai):gZ P E σ a w c o e.ws:=by
 simp only[mo,ho]at h;cases mx with
 |some m=>simp at h
 |none=>
 obtain⟨kk,hk,h⟩:=Rd.bind_some h;obtain⟨v,h1,h⟩:=Rd.bind_some h;obtain⟨⟨b,q⟩,h3,h⟩:=Rd.bind_some h;obtain⟨ev,kv⟩:=jc dI h1;have exec:∀{u r:bn},a.eval x=u->(qB t u (lo.map a.eval) (hi.map a.eval) aj).run P w= .ok r w->(execOp a.eval o).run P w= .ok (.value r) w:=by intro u r hu hr;unfold execOp;rw[ho];exact i_ (by rw[hu];exact hr)
 cases kk with
 |s=>cases v with
  |s s=>have hu:=lA hE hk;obtain⟨l,hl,h3⟩:=Rd.bind_some h3;obtain⟨hh,Bi,h3⟩:=Rd.bind_some h3;obtain⟨rfl,rfl⟩:=bY (aJ h3);obtain rfl:=aJ h;have hc:ic l hh s.size=true:=hc;simp only[ic,aM,bh]at hc;obtain⟨⟨c0,c1⟩,c2⟩:=hc;exact gL cg dI hd (s:= .v ak [.s _]) (v:= .string _) ⟨rfl,by have h5:=ev.2;unfold Ez at h5⊢;rw[yM];omega⟩ (λn hn=>by simp[cO,bR]at hn) (exec ev.1 (Mk (P:=P) hu dI hl Bi c0 c1 c2))
  |_=>simp[Mp]at h3
 |l el=>
  have hu:=kR hE hk;obtain⟨te,LO,h3⟩:=Rd.bind_some h3;have LO:=dX LO;cases v with
  |sh e' xs=>
   obtain⟨Ek,h4⟩:=cR h3;have:=aW Ek;subst this;obtain⟨l,hl,h4⟩:=Rd.bind_some h4;obtain⟨hh,Bi,h4⟩:=Rd.bind_some h4;obtain⟨rfl,rfl⟩:=bY (aJ h4);obtain rfl:=aJ h;have hc:ic l hh xs.length=true:=hc;simp only[ic,aM,bh]at hc;obtain⟨⟨c0,c1⟩,c2⟩:=hc;have ev:da E w c.K (a.eval x) (.l el xs):=ev;generalize hv:a.eval x=v at ev;cases ev with
   |nl _ A cp=>
    have h0:hh=0:=by simp at c2;omega
    have l0:l=0:=by omega
    subst h0;subst l0;have hr:=kU (P:=P) (te:=te) hE hu LO dI (A:=A) (n:=0) (cp:=cp) hl Bi (by omega) (by omega) (by omega);exact gL cg dI hd (s:= .v ak [.sh el (eW [] (0:ax).toNat (0:ax).toNat)]) (.nl _ _ _) (λn hn=>by simp[cO,bR]at hn) (exec hv hr)
   |l _ _ bb oo cp ti U ht PO hmx hK hs hcell gC=>have hr:=kU (P:=P) (te:=ti) hE hu ht dI (A:=ah (ad bb oo)) (cp:=cp) hl Bi c0 c1 (by omega);have atk:=(FI (lo:=l.toNat) (hi:=hh.toNat) ht (.l el xs bb oo cp ti U ht PO hmx hK hs hcell gC) (by omega) (by omega)).2;exact gL cg dI hd (s:= .v ak [.sh el (eW xs l.toNat hh.toNat)]) atk (λn hn=>by simp[cO,bR]at hn) (exec hv hr)
  |own iE=>
   obtain⟨ob,hg,h3⟩:=Rd.bind_some h3;have hg:=dz hg
   have main:∀(xs:aQ),(c.P iE).n=xs.length->((c.P iE).nil=ai->xs=[])->(∃ti,E.ty el=ah ti/\(c.P iE).sz=ti.ks.length)->((c.P iE).nil=ak->(c.P iE).n<=(c.P iE).cap)->
     ((oh lo 0).bind λl=>(oh hi xs.length).bind λh=>Rd.ret (ic l h xs.length,AV.vw iE l.toNat h.toNat)).val σ=ah (b,q)->gZ P E σ a w c o e.ws:=by
    intro xs hn jA Yp hcp h4
    obtain⟨l,hl,h4⟩:=Rd.bind_some h4
    obtain⟨hh,Bi,h4⟩:=Rd.bind_some h4
    obtain⟨rfl,rfl⟩:=bY (aJ h4)
    obtain rfl:=aJ h
    have hc:ic l hh xs.length=true:=hc
    simp only[ic,aM,bh]at hc
    obtain⟨⟨c0,c1⟩,c2⟩:=hc
    obtain⟨ti,ht,gj⟩:=Yp
    have ev:a.eval x=l_ (c.P iE):=ev
    cases hq:(c.P iE).nil with
    |true=>
     rw[nN hq]at ev;have hx:=jA hq;subst hx;have h0:hh=0:=by simp at c2;omega
     have l0:l=0:=by omega
     subst h0;subst l0;have hr:=kU (P:=P) (te:=ti) hE hu ht dI (A:=aj) (n:=0) (cp:=0) hl Bi (by omega) (by omega) (by simp);refine gL cg dI hd (s:= .v ak [.vw iE 0 0]) (v:= .slice aj 0 0) ⟨cG _,bD _,λ_=>rfl,λhf=>by rw[hq]at hf;cases hf⟩ (λm hm=>by simp[cO,bR]at hm;subst hm;rw[hg];simp) (exec ev (by simpa using hr))
    |false=>
     rw[e6 hq]at ev;have hcp:=hcp hq;have hr:=kU (P:=P) (te:=ti) hE hu ht dI (A:=ah (ad (c.P iE).blk (c.P iE).off)) (n:=(c.P iE).n) (cp:=(c.P iE).cap) hl (by rw[hn];exact Bi) c0 c1 (by omega);refine gL cg dI hd (s:= .v ak [.vw iE l.toNat hh.toNat]) ⟨by omega,by omega,λhf=>(by rw[hq]at hf;cases hf),λ_=> ?_⟩ (λm hm=>by simp[cO,bR]at hm;subst hm;rw[hg];simp) (exec ev hr);by_cases hle:(c.P iE).cap=l.toNat
     ·refine .inr ⟨hle.symm,(c.P iE).off,by omega, ?_⟩;rw[bA hle,show hh.toNat-l.toNat=0 by omega,show(c.P iE).cap-l.toNat=0 by omega]
     ·refine .inl ⟨by omega, ?_⟩;rw[bJ hle];simp only[ji,Addr.oc,gj]
   cases ob with
   |row e' ex xs=>obtain⟨Ek,h4⟩:=cR h3;have:=aW Ek;subst this;obtain⟨i1,i2,ti,i3,i4,i5⟩:=lC cg hg;exact main xs i1 i2 ⟨ti,i3,i4⟩ (λh=>(i5 h).1) h4
   |fW e' xs=>
    obtain⟨Ek,h4⟩:=cR h3;have:=aW Ek;subst this;obtain⟨i1,i2,i3⟩:=nc cg hg;refine main xs i1 i2 i3 (λPX=> ?_) h4;obtain⟨j1,j2,_⟩:=cg.obj iE _ hg;rw[e6 PX]at j1;by_cases hz:0<xs.length
    ·obtain⟨t3,U,L⟩:=j1.JW hz;rw[j2];exact L.cap
    ·omega
   |_=>simp at h3
  |vw iE Ey sE=>
   obtain⟨ob,hg,h3⟩:=Rd.bind_some h3;have hg:=dz hg
   have main:(∃ti,E.ty el=ah ti/\(c.P iE).sz=ti.ks.length)->((c.P iE).nil=ai->(c.P iE).n=0)->((c.P iE).nil=ak->(c.P iE).n<=(c.P iE).cap)->
     ((oh lo 0).bind λl=>(oh hi ((sE-Ey:aE):ax)).bind λh=>Rd.ret (ic l h ((sE-Ey:aE):ax),AV.vw iE (Ey+l.toNat) (Ey+h.toNat))).val σ=ah (b,q)->gZ P E σ a w c o e.ws:=by
    intro Yp jA hcp h4
    obtain⟨l,hl,h4⟩:=Rd.bind_some h4
    obtain⟨hh,Bi,h4⟩:=Rd.bind_some h4
    obtain⟨rfl,rfl⟩:=bY (aJ h4)
    obtain rfl:=aJ h
    have hc:ic l hh ((sE-Ey:aE):ax)=true:=hc
    simp only[ic,aM,bh]at hc
    obtain⟨⟨c0,c1⟩,c2⟩:=hc
    obtain⟨ti,ht,gj⟩:=Yp
    obtain rfl:te=ti:=aJ (LO.symm.trans ht)
    obtain⟨v1,v2,v3,v4⟩:=ev
    cases hq:(c.P iE).nil with
    |true=>
     have hz:=jA hq;have ex:=v3 hq;have hi0:sE=0:=by omega
     have lo0:Ey=0:=by omega
     subst hi0;subst lo0;have h0:hh=0:=by simp at c2;omega
     have l0:l=0:=by omega
     subst h0;subst l0;have hr:=kU (P:=P) (te:=te) hE hu ht dI (A:=aj) (n:=0) (cp:=0) hl (by simpa using Bi) (by omega) (by omega) (by simp);refine gL cg dI hd (s:= .v ak [.vw iE (0+(0:ax).toNat) (0+(0:ax).toNat)]) (v:= .slice aj 0 0) ⟨cG _,bD _,λ_=>rfl,λhf=>by rw[hq]at hf;cases hf⟩ (λm hm=>by simp[cO,bR]at hm;subst hm;rw[hg];simp) (exec ex (by simpa using hr))
    |false=>
     have hcp:=hcp hq;rcases v4 hq with ⟨u1,ex⟩|⟨u1,oo,u2,ex⟩
     ·have hr:=kU (P:=P) (te:=te) hE hu ht dI (A:=ah (ad (c.P iE).blk ((c.P iE).off+Ey*(c.P iE).sz))) (n:=sE-Ey) (cp:=(c.P iE).cap-Ey) hl Bi c0 c1 (by omega);refine gL cg dI hd (s:= .v ak [.vw iE (Ey+l.toNat) (Ey+hh.toNat)]) ⟨by omega,by omega,λhf=>(by rw[hq]at hf;cases hf),λ_=> ?_⟩ (λm hm=>by simp[cO,bR]at hm;subst hm;rw[hg];simp) (exec ex hr);by_cases hle:(c.P iE).cap-Ey=l.toNat
      ·refine .inr ⟨by omega,(c.P iE).off+Ey*(c.P iE).sz, ?_, ?_⟩
       ·have:=b_ (c.P iE).sz (Nat.le_of_lt u1);omega
       ·rw[bA hle,show hh.toNat-l.toNat=0 by omega,show(c.P iE).cap-Ey-l.toNat=0 by omega]
      ·refine .inl ⟨by omega, ?_⟩;rw[bJ hle];simp only[ji,Addr.oc,gj];rw[show Ey+hh.toNat-(Ey+l.toNat)=hh.toNat-l.toNat by omega,show(c.P iE).cap-(Ey+l.toNat)=(c.P iE).cap-Ey-l.toNat by omega,dn,mi]
     ·have hr:=kU (P:=P) (te:=te) hE hu ht dI (A:=ah (ad (c.P iE).blk oo)) (n:=0) (cp:=0) hl (by rw[show sE-Ey=0 by omega]at Bi;exact Bi) c0 c1 (by omega);have h0:hh=0:=by omega
      have l0:l=0:=by omega
      subst h0;subst l0;refine gL cg dI hd (s:= .v ak [.vw iE (Ey+(0:ax).toNat) (Ey+(0:ax).toNat)]) (v:= .slice (ah (ad (c.P iE).blk oo)) 0 0) ⟨cG _,by simp;omega,λhf=>(by rw[hq]at hf;cases hf),λ_=> .inr ⟨by simpa using u1,oo,u2,rfl⟩⟩ (λm hm=>by simp[cO,bR]at hm;subst hm;rw[hg];simp) (exec ex (by simpa using hr))
   cases ob with
   |row e' ex xs=>obtain⟨Ek,h4⟩:=cR h3;have:=aW Ek;subst this;obtain⟨i1,i2,ti,i3,i4,i5⟩:=lC cg hg;exact main ⟨ti,i3,i4⟩ (λhn=>by rw[i1,i2 hn];rfl) (λh=>(i5 h).1) h4
   |fW e' xs=>
    obtain⟨Ek,h4⟩:=cR h3;have:=aW Ek;subst this;obtain⟨i1,i2,i3⟩:=nc cg hg;refine main i3 (λhn=>by rw[i1,i2 hn];rfl) (λPX=> ?_) h4;obtain⟨j1,j2,_⟩:=cg.obj iE _ hg;rw[e6 PX]at j1;by_cases hz:0<xs.length
    ·obtain⟨t3,U,L⟩:=j1.JW hz;rw[j2];exact L.cap
    ·omega
   |_=>simp at h3
  |nl=>
   obtain⟨l,hl,h4⟩:=Rd.bind_some h3;obtain⟨hh,Bi,h4⟩:=Rd.bind_some h4;obtain⟨rfl,rfl⟩:=bY (aJ h4);obtain rfl:=aJ h;have hc:ic l hh 0=true:=hc;simp only[ic,aM,bh]at hc;obtain⟨⟨c0,c1⟩,c2⟩:=hc;have h0:hh=0:=by omega
   have l0:l=0:=by omega
   subst h0;subst l0;have hr:=kU (P:=P) (te:=te) hE hu LO dI (A:=aj) (n:=0) (cp:=0) hl Bi (by omega) (by omega) (by simp);exact gL cg dI hd (s:= .v ak [.nl]) (v:= .slice aj 0 0) rfl (λn hn=>by simp[cO,bR]at hn) (exec ev (by simpa using hr))
  |_=>simp[VF]at h3
 |_=>simp[Mp]at h3
end
end Go.FG

namespace Go.FG
section
variable {P:cZ} {E:fT} {σ:St} {a:Act} {w:bM} {c:eZ} {o:fu} {nm:aE} {e:tc}
theorem Qu(cg:Ok E σ w c){x:AV}{v:bn}(hx:eF E w c x v){el:aE}{xs:aQ}(h:(mM E x).val σ=ah (el,xs)):∃A cp,v= .slice A xs.length cp:=by
 cases x with
 |sh e' ys=>
  obtain⟨rfl,rfl⟩:=bY (aJ h);have hx:da E w c.K v (.l e' ys):=hx;cases hx with
  |nl=>exact⟨_,_,rfl⟩
  |l=>exact⟨_,_,rfl⟩
 |own n=>
  obtain⟨ob,hg,h⟩:=Rd.bind_some h;have hg:=dz hg;have hx:v=l_ (c.P n):=hx;have main:∀ys:aQ,(c.P n).n=ys.length->((c.P n).nil=ai->ys=[])->∃A cp,v= .slice A ys.length cp:=by
   intro ys h1 h2;cases hq:(c.P n).nil with
   |true=>rw[hx,nN hq,h2 hq];exact⟨_,_,rfl⟩
   |false=>rw[hx,e6 hq,h1];exact⟨_,_,rfl⟩
  cases ob with
  |row e' ex ys=>obtain⟨rfl,rfl⟩:=bY (aJ h);obtain⟨i1,i2,_⟩:=lC cg hg;exact main _ i1 i2
  |fW e' ys=>obtain⟨rfl,rfl⟩:=bY (aJ h);obtain⟨i1,i2,_⟩:=nc cg hg;exact main _ i1 i2
  |_=>simp at h
 |vw n lo hi=>
  obtain⟨ob,hg,h⟩:=Rd.bind_some h;have hg:=dz hg;obtain⟨v1,v2,v3,v4⟩:=hx;have main:∀ys:aQ,(c.P n).n=ys.length->((c.P n).nil=ai->ys=[])->((c.P n).nil=ak->(c.P n).n<=(c.P n).cap)->∃A cp,v= .slice A (eW ys lo hi).length cp:=by
   intro ys h1 h2 h3;rw[mJ (by omega)];cases hq:(c.P n).nil with
   |true=>have:=h2 hq;subst this;rw[v3 hq,show hi-lo=0 by simp at h1;omega];exact⟨_,_,rfl⟩
   |false=>
    rcases v4 hq with ⟨_,h⟩|⟨u1,oo,_,h⟩
    ·rw[h];exact⟨_,_,rfl⟩
    ·have:=h3 hq;rw[h,show hi-lo=0 by omega];exact⟨_,_,rfl⟩
  cases ob with
  |row e' ex ys=>obtain⟨rfl,rfl⟩:=bY (aJ h);obtain⟨i1,i2,ti,_,_,i5⟩:=lC cg hg;exact main _ i1 i2 (λh=>(i5 h).1)
  |fW e' ys=>
   obtain⟨rfl,rfl⟩:=bY (aJ h);obtain⟨i1,i2,_⟩:=nc cg hg;refine main _ i1 i2 (λPX=> ?_);obtain⟨j1,j2,_⟩:=cg.obj n _ hg;rw[e6 PX]at j1;by_cases hz:0<ys.length
   ·obtain⟨t3,U,L⟩:=j1.JW hz;rw[j2];exact L.cap
   ·omega
  |_=>simp at h
 |inn n i j=>
  obtain⟨ob,hg,h⟩:=Rd.bind_some h;have hg:=dz hg;cases ob with
  |row e' ex ys=>
   cases ex with
   |false=>simp at h
   |true=>
   obtain⟨te,ht,h⟩:=Rd.bind_some h;have ht:=dX ht;split at h
   ·rename_i e2 Az;obtain⟨rfl,rfl⟩:=bY (aJ h);obtain⟨⟨kI,hx⟩,_⟩:=hx;obtain⟨⟨tj,htj,gj,mT⟩,gi,_⟩:=cg.obj n _ hg;obtain rfl:te=tj:=aJ (ht.symm.trans htj);obtain⟨zs,y',hy,hyj,uu,_,tk,HL,s8,LN,Er,oU⟩:=uP (c:=c) gi mT kI Az;rw[fC hy hyj];cases hq:(c.G n i j).nil with
    |true=>rw[hx,nN hq,show iX (.l e2 zs)=zs from rfl,(oU.nil hq).1];exact⟨_,_,rfl⟩
    |false=>rw[hx,e6 hq,oU.n];exact⟨_,_,rfl⟩
   ·simp at h
  |_=>simp at h
 |_=>simp[mM]at h
theorem m9{cl:Call}{b:Builtin}(ho:o.op= .call cl)(hb:cl.callee= .builtin b):
  ∃cs,(execOp a.eval o).run P w=(builtin b cl.argTypes o.type cs (cl.args.map a.eval)).run P w:=by unfold execOp;rw[ho];simp only[resolve,hb,cj,cT,bI,invoke];exact⟨_,rfl⟩
theorem nK{α:Type}{x:dt α}{y:α}(h:x.toList=[y]):x= #[y]:=by apply sJ;simpa using h
theorem DC{α:Type}{x:dt α}{y z:α}(h:x.toList=[y,z]):x= #[y,z]:=by apply sJ;simpa using h
theorem ahb(hE:eA P E)(cg:Ok E σ w c)(dI:fy E σ a w c)(hd:∀d,o.dst=ah d->d<a.tmps.size){cl:Call}(ho:o.op= .call cl)(hb:cl.callee= .builtin .len)(h:(mo E nm o).val σ=ah e):gZ P E σ a w c o e.ws:=by
 simp only[mo,ho,hb]at h;split at h
 ·rename_i x t hx ht;obtain⟨k,hk,h⟩:=Rd.bind_some h;obtain⟨v,h1,h⟩:=Rd.bind_some h;obtain⟨n,h2,h⟩:=Rd.bind_some h;obtain⟨ev,kv⟩:=jc dI h1;have hx:=nK hx;have ht:=nK ht;have exec:∀r,(wE #[t] o.type #[a.eval x]).run P w= .ok r w->(execOp a.eval o).run P w= .ok (.value r) w:=by intro r hr;obtain⟨cs,IG⟩:=m9 (P:=P) (a:=a) (w:=w) ho hb;rw[IG,hx,ht];simp only[builtin,DY,fw,Ce];exact i_ hr
  have fin:∀m:aE,n=m->(wE #[t] o.type #[a.eval x]).run P w= .ok (goInt m) w->gZ P E σ a w c o e.ws:=by intro m hm hr;subst hm;exact fZ cg dI hd h (v:=goInt m) rfl (λn hn=>by simp[cO,bR]at hn) (exec _ hr)
  cases k with
  |s=>cases v with
   |s s=>obtain rfl:=aJ h2;have ev:a.eval x= .string s:=ev.1;exact fin s.size rfl (by rw[ev];simp[wE,run_underlying (lA hE hk)])
   |_=>simp[agt]at h2
  |l el=>
   have hu:=kR hE hk;have sl:∀A (m:aE) cp,a.eval x= .slice A m cp->n=m->gZ P E σ a w c o e.ws:=by intro A m cp hv hn;exact fin m hn (by rw[hv];simp[wE,run_underlying hu])
   have gen:∀(el':aE) (xs:aQ),(mM E v).val σ=ah (el',xs)->n=xs.length->gZ P E σ a w c o e.ws:=by intro el' xs hr hn;obtain⟨A,cp,hv⟩:=Qu cg ev hr;exact sl _ _ _ hv hn
   cases v with
   |nl=>obtain rfl:=aJ h2;exact sl aj 0 0 ev rfl
   |vw m lo hi=>
    obtain⟨ob,hg,h2⟩:=Rd.bind_some h2;have hg:=dz hg;have r1:∃(e1:aE) (ys:aQ),(mM E (.vw m lo hi)).val σ=ah (e1,eW ys lo hi)/\(c.P m).n=ys.length/\n=((hi-lo:aE):ax):=by
     cases ob with
     |row e1 ex ys=>exact⟨e1,ys,by simp[mM,jN,hg],(lC cg hg).1,(aJ h2).symm⟩
     |fW e1 ys=>exact⟨e1,ys,by simp[mM,jN,hg],(nc cg hg).1,(aJ h2).symm⟩
     |_=>simp at h2
    obtain⟨e1,ys,h5,h6,h7⟩:=r1;refine gen e1 _ h5 ?_;rw[mJ (by have:=ev.2.1;omega)];exact h7
   |_=>obtain⟨⟨el',xs⟩,hr,h3⟩:=Rd.bind_some h2;obtain rfl:=aJ h3;exact gen el' xs hr rfl
  |_=>simp[agt]at h2
 ·simp at h
end
end Go.FG

namespace Go.FG
section
variable {P:cZ} {E:fT} {σ:St} {a:Act} {w:bM} {c:eZ} {o:fu} {nm:aE} {e:tc}
theorem zX{α:Type}{x:aA α}{σ:St}{r:α}(h:(Va x).val σ=ah r):x=ah r:=by
 cases x with
 |none=>simp[Va]at h
 |some y=>exact h
theorem aha(hE:eA P E)(cg:Ok E σ w c)(dI:fy E σ a w c)(hd:∀d,o.dst=ah d->d<a.tmps.size){cl:Call}(ho:o.op= .call cl)(hb:cl.callee= .builtin .cap)(h:(mo E nm o).val σ=ah e):gZ P E σ a w c o e.ws:=by
 simp only[mo,ho,hb]at h;split at h
 ·rename_i x t hx ht;obtain⟨k,hk,h⟩:=Rd.bind_some h;have hx:=nK hx;have ht:=nK ht;cases k with
  |l el=>
   obtain⟨v,h1,h⟩:=Rd.bind_some h;obtain⟨ev,kv⟩:=jc dI h1;have hu:=kR hE hk;cases v with
   |nl=>refine fZ cg dI hd h (v:=goInt 0) rfl (λn hn=>by simp[cO,bR]at hn) ?_;obtain⟨cs,IG⟩:=m9 (P:=P) (a:=a) (w:=w) ho hb;rw[IG,hx,ht];simp only[builtin,DY,fw,Ce];refine i_ ?_;rw[show a.eval x= .slice aj 0 0 from ev];simp[Builtin.cap_,run_underlying hu]
   |_=>simp at h
  |_=>simp at h
 ·simp at h
theorem LZ(dI:fy E σ a w c)(mx:aU):∀(r:az dy) (k:nA) (n:ax) (v:AV),(xY mx r k n).val σ=ah v->
  ∃m,v= .i k m/\((r.map a.eval).foldlM (if mx then EN else EO) (.int k n)).run P w= .ok (.int k m) w:=by
 intro r;induction r with
 |nil=>intro k n v h;obtain rfl:=aJ h;exact⟨n,rfl,rfl⟩
 |cons x r ih=>
  intro k n v h;obtain⟨⟨k2,m⟩,h1,h2⟩:=Rd.bind_some h;have hx:=qa dI h1;obtain⟨q,hq,hr⟩:=ih k (iu mx n m) v h2;refine⟨q,hq, ?_⟩
  simp only[fw,List.foldlM_cons,cj,hx];cases mx with
  |true=>
   have:(EN (.int k n) (.int k2 m)).run P w= .ok (.int k (iu ai n m)) w:=by simp[EN,iu]
   simp only[if_true,this,bI]at hr⊢;exact hr
  |false=>
   have:(EO (.int k n) (.int k2 m)).run P w= .ok (.int k (iu ak n m)) w:=by simp[EO,iu]
   simp only[dx,if_false,this,bI]at hr⊢;exact hr
theorem FT(mx:aU)(cg:Ok E σ w c)(dI:fy E σ a w c)(hd:∀d,o.dst=ah d->d<a.tmps.size){cl:Call}(ho:o.op= .call cl)(hb:cl.callee= .builtin (if mx then .max else .min))(h:(mo E nm o).val σ=ah e):gZ P E σ a w c o e.ws:=by
 have main:∀x r,cl.args.toList=x::r->((C8 x).bind λ(k,n)=>(xY mx r k n).bind λv=>Af o v).val σ=ah e->gZ P E σ a w c o e.ws:=by
  intro x r hx h;obtain⟨⟨k,n⟩,h1,h⟩:=Rd.bind_some h;obtain⟨v,h2,h⟩:=Rd.bind_some h;have ex:=qa dI h1;obtain⟨m,rfl,hr⟩:=LZ (P:=P) dI mx r k n v h2;refine fZ cg dI hd h (v:= .int k m) rfl (λn hn=>by simp[cO,bR]at hn) ?_;obtain⟨cs,IG⟩:=m9 (P:=P) (a:=a) (w:=w) ho hb;have sD:cl.args.map a.eval=((x::r).map a.eval).toArray:=by rw[<-hx];apply sJ;simp
  rw[IG,sD];cases mx with
  |true=>simp only[if_true,builtin];refine i_ ?_;simp only[Builtin.max_,fw,ex];exact hr
  |false=>simp only[dx,if_false,builtin];refine i_ ?_;simp only[Builtin.min_,fw,ex];exact hr
 cases mx with
 |true=>
  simp only[mo,ho,hb,if_true]at h;split at h
  ·rename_i x r hx;exact main x r hx h
  ·simp at h
 |false=>
  simp only[mo,ho,hb,dx,if_false]at h;split at h
  ·rename_i x r hx;exact main x r hx h
  ·simp at h
theorem Vz{op:BinOp}{t:aE}{k:nA}{m n:ax}{b:aU}{v:AV}(hs:P4 op=ak)(h:afi op k m n=ah (b,v))(hb:b=ai):
  ∃u,eF E w c v u/\bR v=[]/\(binOp op t (.int k m) (.int k n)).run P w= .ok u w:=by
 subst hb;cases op<;>simp only[afi,jC,jj,true_and,reduceCtorEq]at h<;>first|(simp[P4]at hs;done)|skip
 case quo=>
  obtain⟨h1,rfl⟩:=h
  have hn:¬n=0:=by simpa using h1
  exact⟨_,rfl,rfl,by simp[binOp,Op.intDiv,hn]⟩
 case rem=>
  obtain⟨h1,rfl⟩:=h
  have hn:¬n=0:=by simpa using h1
  exact⟨_,rfl,rfl,by simp[binOp,Op.intDiv,hn]⟩
 all_goals (subst h;exact⟨_,rfl,rfl,by simp[binOp,Op.intArith,Op.intBits,Op.intCmp]⟩)
theorem VA{op:BinOp}{t:aE}{m n:aq}{b:aU}{v:AV}(hs:P4 op=ak)(h:afk op m n=ah (b,v))(hb:b=ai):
  ∃u,eF E w c v u/\bR v=[]/\(binOp op t (.string m) (.string n)).run P w= .ok u w:=by
 subst hb;cases op<;>simp only[afk,jC,jj,true_and,reduceCtorEq]at h<;>first|(simp[P4]at hs;done)|skip
 case add=>
  obtain⟨h1,rfl⟩:=h
  have h1:=cq h1
  refine⟨_,⟨rfl,by unfold Ez;rw[dH];omega⟩,rfl, ?_⟩
  have:¬(((m.size+n.size:aE):ax)>ao.max):=by
   have:ao.max=9223372036854775807:=by decide
   omega
  simp only[binOp,Op.stringOp,bJ this,cT]
 all_goals (subst h;exact⟨_,rfl,rfl,by simp[binOp,Op.stringOp]⟩)
theorem yw{op:BinOp}{t:aE}{x y:dy}{u v:bn}(hu:∀xs,u≠ .agg xs)(hn:u≠ .nilIface):(eqGuard op t x y u v).run P w= .ok () w:=by unfold eqGuard;cases op<;>cases u<;>first|rfl|(exact cL rfl (hu _))|(exact cL rfl hn)|(cases v<;>rfl)
theorem yv{P:cZ}(w:bM){t:aE}(h:P.underlying t=ah .bool)(m n:aU):(binOp .eql t (.bool m) (.bool n)).run P w= .ok (.bool (m==n)) w/\(binOp .neq t (.bool m) (.bool n)).run P w= .ok (.bool !(m==n)) w:=by
 have h1:(Op.equal t (.bool m) (.bool n)).run P w= .ok (m==n) w:=by show(Op.equalIn (9999+1) t (.bool m) (.bool n)).run P w=_;exact run_equalIn_bool w 9999 t m n h
 simp only[binOp,cj,h1,bI,cT];exact⟨trivial,trivial⟩
theorem Dh{xs:az AV}{ks:az Ck}(hk:xs.map HN=ks)(hp:plain ks=ai){vals:dt bn}(hs:vals.size=xs.length)(hv:∀(j:aE) (a:AV),xs[j]? =ah a->∃u:bn,vals[j]? =ah u/\eF E w c a u):vals=(xs.map mg).toArray:=by
 apply sJ;apply WN;intro j;simp only[cX,bL];cases hx:xs[j]? with
 |none=>have:=List.getElem?_eq_none_iff.1 hx;simp;omega
 |some a=>
  obtain⟨u,hu,ha⟩:=hv j a hx;rw[hu];have hm:HN a∈ks:=by rw[<-hk];exact cU.2 ⟨a,aR hx,rfl⟩
  have mR:=bu.1 hp _ hm;cases a<;>simp[HN]at mR<;>first|(have h1:u=_:=ha;rw[h1];rfl)|(have h1:u=_:=ha.1;rw[h1];rfl)
theorem XP(hE:eA P E){op:BinOp}{t:aE}{x y:dy}{sx sy:SV}{ux uy:bn}(ex:jm E w c sx ux)(ey:jm E w c sy uy){b:aU}{v:AV}(h3:(afj E t op sx sy).val σ=ah (b,v))(hc:b=ai):
  ∃u,eF E w c v u/\bR v=[]/\(do eqGuard op t x y ux uy;binOp op t ux uy).run P w= .ok u w:=by
 have fin:∀u,eF E w c v u->bR v=[]->(do eqGuard op t x y ux uy;binOp op t ux uy).run P w= .ok u w->∃u,eF E w c v u/\bR v=[]/\(do eqGuard op t x y ux uy;binOp op t ux uy).run P w= .ok u w:=
  λu hu hn hr=>⟨u,hu,hn,hr⟩
 have pl:∀u1 u2 r,ux=u1->uy=u2->(∀xs,u1≠ .agg xs)->u1≠ .nilIface->(binOp op t u1 u2).run P w= .ok r w->(do eqGuard op t x y ux uy;binOp op t ux uy).run P w= .ok r w:=by intro u1 u2 r h1 h2 h3 h4 h5;rw[h1,h2];simp only[cj,yw (P:=P) (w:=w) (op:=op) (t:=t) (x:=x) (y:=y) (v:=u2) h3 h4,bI,h5]
 unfold afj at h3;split at h3
 ·rename_i p q;have ex:eF E w c p ux:=ex;have ey:eF E w c q uy:=ey;cases mT:P4 op with
  |true=>
   rw[mT]at h3;replace h3:=zX h3;cases p<;>cases q<;>first|(simp[shV]at h3;done)|skip
   cases op<;>simp only[shV,jC,jj,reduceCtorEq]at h3<;>(obtain⟨rfl,rfl⟩:=h3)
   ·refine fin _ rfl rfl (pl _ _ _ ex ey (by simp) (by simp) ?_);have:¬(_:ax)<0:=Int.not_lt.2 (cq hc);simp[binOp,Op.shift,this]
   ·refine fin _ rfl rfl (pl _ _ _ ex ey (by simp) (by simp) ?_);have:¬(_:ax)<0:=Int.not_lt.2 (cq hc);simp[binOp,Op.shift,this]
  |false=>
   rw[mT]at h3;obtain⟨k,hk,h3⟩:=Rd.bind_some h3;replace h3:=zX h3;cases p with
   |i k1 m=>
    cases q with
    |i k2 n=>
     have h9:=h3;simp only[K_]at h9;split at h9
     ·rename_i Tz;subst Tz;obtain⟨u,hu,hn,hr⟩:=Vz (P:=P) (t:=t) (E:=E) (c:=c) (w:=w) mT h9 hc;exact fin u hu hn (pl _ _ _ ex ey (by simp) (by simp) hr)
     ·cases h9
    |_=>simp[K_]at h3
   |s m=>
    cases q with
    |s n=>obtain⟨u,hu,hn,hr⟩:=VA (P:=P) (t:=t) (E:=E) (c:=c) (w:=w) mT h3 hc;exact fin u hu hn (pl _ _ _ ex.1 ey.1 (by simp) (by simp) hr)
    |_=>simp[K_]at h3
   |b m=>
    cases q with
    |b n=>
     have abz:k= .b->P.underlying t=ah .bool:=by rintro rfl;obtain⟨ti,q1,q2,q3⟩:=rT hk;obtain⟨d,hd',_,hn⟩:=hE.desc t ti q1;rcases hn q2 with ⟨k,h,_⟩|⟨h,rfl⟩|⟨h,_⟩|⟨e',h,_⟩|⟨h,_⟩<;>rw[q3]at h<;>simp_all
     cases op<;>cases k<;>simp only[K_,jC,jj,reduceCtorEq]at h3<;>(obtain⟨rfl,rfl⟩:=h3)
     ·refine fin _ rfl rfl (pl _ _ _ ex ey (by simp) (by simp) ?_);exact(yv (P:=P) w (abz rfl) _ _).1
     ·refine fin _ rfl rfl (pl _ _ _ ex ey (by simp) (by simp) ?_);exact(yv (P:=P) w (abz rfl) _ _).2
    |_=>simp[K_]at h3
   |_=>simp[K_]at h3
 ·rename_i xs ys;obtain⟨ti,ht,h3⟩:=Rd.bind_some h3;have ht:=dX ht;obtain⟨h4,h3⟩:=cR h3;simp only[aM]at h4;obtain⟨⟨⟨⟨h5,h6⟩,h7⟩,h8⟩,h9⟩:=h4;have h7:=rR h7;have h8:=rR h8;replace h3:=zX h3;obtain⟨X,hX,sX,vX⟩:=ex;obtain⟨Y,hY,sY,vY⟩:=ey;have eX:=Dh h7 h9 sX vX;have eY:=Dh h8 h9 sY vY;cases hq:X1 xs ys with
  |none=>rw[hq]at h3;cases h3
  |some r=>
   rw[hq]at h3;obtain⟨r1,r2⟩:=hE.eq t ti h6 ht w x y xs ys r hq h7 h8;cases op<;>first|(simp[isEq]at h5;done)|skip
   ·obtain⟨_,rfl⟩:=bY (aJ h3);exact fin _ rfl rfl (by rw[hX,hY,eX,eY];exact r1)
   ·obtain⟨_,rfl⟩:=bY (aJ h3);exact fin _ rfl rfl (by rw[hX,hY,eX,eY];exact r2)
 ·simp at h3
theorem U1(hE:eA P E)(cg:Ok E σ w c)(dI:fy E σ a w c)(hd:∀d,o.dst=ah d->d<a.tmps.size){op:BinOp}{t ty:aE}{x y:dy}(ho:o.op= .binOp op t x y ty)(h:(mo E nm o).val σ=ah e)(hc:e.cond=ai):gZ P E σ a w c o e.ws:=by simp only[mo,ho]at h;obtain⟨sx,h1,h⟩:=Rd.bind_some h;obtain⟨sy,h2,h⟩:=Rd.bind_some h;obtain⟨⟨b,v⟩,h3,h⟩:=Rd.bind_some h;obtain rfl:=aJ h;obtain⟨u,hu,hn,hr⟩:=XP (P:=P) (x:=x) (y:=y) hE (mD dI h1).1 (mD dI h2).1 h3 hc;refine gL cg dI hd (s:= .v ak [v]) hu (λn kP=>by simp[cO,hn]at kP) ?_;unfold execOp;rw[ho];exact i_ hr
end
end Go.FG

namespace Go.FG
theorem MB{p:Pl}(hn:p.nil=ak->p.n<=p.cap)(hz:p.nil=ai->p.n=0):xC p 0 p.n (l_ p):=by
 refine⟨bD _,cG _,λh=>nN h,λh=> ?_⟩
 rw[e6 h];by_cases hc:p.cap=0
 ·refine .inr ⟨hc.symm,p.off,Nat.le_add_right _ _, ?_⟩;have:=hn h;rw[hc,show p.n=0 by omega]
 ·refine .inl ⟨by omega, ?_⟩;simp
theorem qW(xs:aQ):eW xs 0 xs.length=xs:=by unfold eW;simp
def oy(w:bM)(v:bn)(xs:aQ)(sz:aE)(R:aE->aE->bn->CV->Prop):Prop:=
 ∃A cp,v= .slice A xs.length cp/\(xs≠[]->∃b o,A=ah (ad b o)/\∀(i:aE) (y:az CV) (j:aE) (x:CV),xs[i]? =ah y->y[j]? =ah x->∃u:bn,w.cell? (ad b (o+i*sz+j))=ah u/\R i j u x)
theorem oy.imp{w:bM}{v:bn}{xs:aQ}{sz:aE}{R R':aE->aE->bn->CV->Prop}(h:oy w v xs sz R)(hR:∀(i:aE) (y:az CV) (j:aE) (x:CV) (u:bn),xs[i]? =ah y->y[j]? =ah x->R i j u x->R' i j u x):oy w v xs sz R':=by
 obtain⟨A,cp,h1,h2⟩:=h;refine⟨A,cp,h1,λiz=> ?_⟩
 obtain⟨b,o,h3,h4⟩:=h2 iz;refine⟨b,o,h3,λi y j x hi hj=> ?_⟩
 obtain⟨u,hu,hr⟩:=h4 i y j x hi hj;exact⟨u,hu,hR i y j x u hi hj hr⟩
theorem Mv{w:bM}{p:Pl}{xs:aQ}{R:aE->aE->bn->CV->Prop}{lo hi:aE}{v:bn}(h:jl w p xs R)(hv:xC p lo hi v):oy w v (eW xs lo hi) p.sz (λi j u x=>R (lo+i) j u x):=by
 obtain⟨v1,v2,v3,v4⟩:=hv;have hl:=mJ (xs:=xs) (lo:=lo) (hi:=hi) (by rw[<-h.n];exact v2);cases hq:p.nil with
 |true=>
  have hx:=(h.nil hq).1;have h0:=h.n;rw[hx]at h0;refine⟨aj,0, ?_,λiz=>cL (by rw[hx];unfold eW;simp) iz⟩
  rw[v3 hq,hl];have:p.n=0:=h0;congr 1;omega
 |false=>
  obtain⟨vals,hb,TB,Yc,mQ,hc⟩:=h.mem hq;rcases v4 hq with ⟨u1,rfl⟩|⟨u1,oo,u2,rfl⟩
  ·refine⟨_,_,by rw[hl],λiz=>⟨_,_,rfl,λi y j x mm hj=> ?_⟩⟩
   rw[uj]at mm;split at mm
   ·obtain⟨u,hu,hr⟩:=hc (lo+i) y j x mm hj;refine⟨u, ?_,hr⟩
    rw[hb.cell,<-hu];congr 1;rw[dn];omega
   ·cases mm
  ·have h0:hi-lo=0:=by omega
   refine⟨_,_,by rw[hl,h0],λiz=>cL (gh (hl.trans h0)) iz⟩
theorem JM{E:fT}{w:bM}{K:aE->Prop}{p:Pl}{e:aE}{te:TI}{xs:aQ}(he:E.ty e=ah te)(h:da E w K (l_ p) (.l e xs))(hn:p.n=xs.length)(hs:p.sz=te.ks.length){lo hi:aE}{v:bn}(hv:xC p lo hi v):da E w K v (.l e (eW xs lo hi)):=by
 obtain⟨v1,v2,v3,v4⟩:=hv;have hl:=mJ (xs:=xs) (lo:=lo) (hi:=hi) (by rw[<-hn];exact v2);have nil:hi-lo=0->eW xs lo hi=[]:=λh0=>gh (hl.trans h0);cases hq:p.nil with
 |true=>
  rw[nN hq]at h;have hx:xs=[]:=by cases h;rfl
  subst hx;have hn:p.n=0:=hn;rw[v3 hq,nil (by omega)];exact .nl _ _ _
 |false=>
  rw[e6 hq]at h;rcases v4 hq with ⟨u1,rfl⟩|⟨u1,oo,u2,rfl⟩
  ·have:=(FI (lo:=lo) (hi:=hi) he h v1 (by rw[<-hn];exact v2)).2;rw[bJ (by omega)]at this;simpa only[ji,Addr.oc,hs]using this
  ·by_cases hz:hi-lo=0
   ·rw[nil hz];exact .nl _ _ _
   ·have h1:0<xs.length:=by omega
    obtain⟨t3,U,L⟩:=h.JW h1;have:=L.cap;omega
theorem Aa{E:fT}{w:bM}{K:aE->Prop}{v:bn}{e:aE}{te:TI}{xs:aQ}(he:E.ty e=ah te)(h:da E w K v (.l e xs)):oy w v xs te.ks.length (λ_ _ u x=>da E w K u x)/\∀y∈xs,y.map CV.kd=te.ks:=by
 cases h with
 |nl=>exact⟨⟨_,_,rfl,λh=>cL rfl h⟩,λy hy=>by cases hy⟩
 |l _ _ b o cp ti U ht hc hm hK hs hcell gC=>obtain rfl:te=ti:=aJ (he.symm.trans ht);exact⟨⟨_,_,rfl,λ_=>⟨b,o,rfl,λi y j x hi hj=>⟨U i j,hcell i j y x hi hj,gC i j y x hi hj⟩⟩⟩,hs⟩
theorem pC{E:fT}{w:bM}{K:aE->Prop}{u:bn}{x:CV}(h:da E w K u x)(hl:uI x=ak):Sc u x:=by
 cases h with
 |i=>exact⟨rfl,trivial⟩
 |b=>exact⟨rfl,trivial⟩
 |s _ h=>exact⟨rfl,h⟩
 |nl=>simp[uI]at hl
 |l=>simp[uI]at hl
theorem kV{E:fT}{w:bM}{K:aE->Prop}{u:bn}{x:CV}(hl:uI x=ak)(h:Sc u x):da E w K u x:=by
 obtain⟨h1,h2⟩:=h;subst h1;cases x with
 |i k n=>exact .i k n
 |b x=>exact .b x
 |s x=>exact .s x h2
 |l=>simp[uI]at hl
theorem uS{E:fT}{w:bM}{G:aE->aE->Pl}{i j:aE}{u:bn}{x:CV}(h:XC E w G i j u x)(hl:uI x=ak):Sc u x:=by
 cases x with
 |l=>simp[uI]at hl
 |i=>exact h
 |b=>exact h
 |s=>exact h
theorem uQ{E:fT}{w:bM}{G:aE->aE->Pl}{i j:aE}{u:bn}{x:CV}(hl:uI x=ak)(h:Sc u x):XC E w G i j u x:=by
 cases x with
 |l=>simp[uI]at hl
 |i=>exact h
 |b=>exact h
 |s=>exact h
theorem oy.list{w:bM}{v:bn}{xs:aQ}{sz:aE}{R:aE->aE->bn->CV->Prop}(h:oy w v xs sz R)(hs:∀y∈xs,y.length=sz):
  ∃(A:aA Addr) (cp:aE) (news:az bn),v= .slice A xs.length cp/\news.length=xs.length*sz/\(xs=[]\/∃b o,A=ah (ad b o)/\∀j u,news[j]? =ah u->w.cell? (ad b (o+j))=ah u)/\
   ∀(i:aE) (y:az CV) (j:aE) (x:CV),xs[i]? =ah y->y[j]? =ah x->∃u:bn,news[i*sz+j]? =ah u/\R i j u x:=by
 obtain⟨A,cp,rfl,h2⟩:=h;by_cases hx:xs=[]
 ·subst hx;exact⟨A,cp,[],rfl,by simp, .inl rfl,λi y j x hi hj=>by simp at hi⟩
 ·obtain⟨b,o,h3,h4⟩:=h2 hx;have ex:∀q,q<xs.length*sz->∃u,w.cell? (ad b (o+q))=ah u:=by
   intro q hq;have gj:0<sz:=by rcases DL sz with h|h;(subst h;simp at hq);exact h
   have hi:q/sz<xs.length:=by rw[yN gj];exact hq
   have hj:q%sz<xs[q/sz].length:=by rw[hs _ (bB hi)];exact DM _ gj
   obtain⟨u,hu,_⟩:=h4 (q/sz) xs[q/sz] (q%sz) (xs[q/sz][q%sz]) (by simp[hi]) (by simp[hj]);refine⟨u, ?_⟩
   rw[<-hu];congr 2;have:=KD q sz;rw[ET]at this;omega
  refine⟨A,cp,(b8 (xs.length*sz)).map (λq=>(w.cell? (ad b (o+q))).getD undef),rfl,by simp, .inr ⟨b,o,h3,λj u hj=> ?_⟩,λi y j x hi hj=> ?_⟩
  ·rw[bL]at hj;by_cases j8:j<xs.length*sz
   ·obtain⟨u',sF⟩:=ex j j8;simp only[j8,vR,ji,sF,y_,jC]at hj;rw[sF,hj]
   ·rw[lh (l:=b8 (xs.length*sz)) (by simpa using j8)]at hj;cases hj
  ·obtain⟨u,hu,hr⟩:=h4 i y j x hi hj;refine⟨u, ?_,hr⟩
   have hil:=(aT.1 hi).1;have j8:=(aT.1 hj).1;rw[hs y (aR hi)]at j8;have jt:i*sz+j<xs.length*sz:=by have:(i+1)*sz<=xs.length*sz:=b_ _ hil;rw[dn]at this;omega
   rw[bL,vR jt,ji];rw[show o+(i*sz+j)=o+i*sz+j by omega,hu];rfl
section
variable {P:cZ} {E:fT} {σ:St} {a:Act} {w:bM} {c:eZ} {o:fu} {nm:aE} {e:tc}
theorem yt(cg:Ok E σ w c){nm e:aE}{ex:aU}{xs:aQ}(h:σ (c9 nm)= .o (.row e ex xs)){lo hi:aE}{v:bn}(hv:xC (c.P nm) lo hi v):
  ∃te,E.ty e=ah te/\(∀y∈eW xs lo hi,y.map CV.kd=te.ks)/\oy w v (eW xs lo hi) te.ks.length (λi j u x=>if ex=ai then XC E w (c.G nm) (lo+i) j u x else da E w c.K u x):=by obtain⟨⟨ti,h1,h2,h3⟩,h4,_⟩:=cg.obj nm _ h;have:=Mv h4 hv;rw[h2]at this;exact⟨ti,h1,λy hy=>h3 y (CZ hy),this⟩
theorem wy(cg:Ok E σ w c){nm e:aE}{ex:aU}{xs:aQ}(h:σ (c9 nm)= .o (.row e ex xs)):xC (c.P nm) 0 xs.length (l_ (c.P nm)):=by obtain⟨h1,h2,ti,h3,h4,h5⟩:=lC cg h;rw[<-h1];exact MB (λhn=>(h5 hn).1) (λhn=>by rw[h1,h2 hn];rfl)
theorem JB(cg:Ok E σ w c){nm e:aE}{xs:aQ}(h:σ (c9 nm)= .o (.fW e xs)):xC (c.P nm) 0 xs.length (l_ (c.P nm)):=by
 obtain⟨h1,h2,ti,h3,h4⟩:=nc cg h;rw[<-h1];refine MB (λhn=> ?_) (λhn=>by rw[h1,h2 hn];rfl);obtain⟨j1,j2,_⟩:=cg.obj nm _ h;rw[e6 hn]at j1;by_cases hz:0<xs.length
 ·obtain⟨t3,U,L⟩:=j1.JW hz;rw[j2];exact L.cap
 ·omega
theorem pB(cg:Ok E σ w c){nm e:aE}{xs:aQ}(h:σ (c9 nm)= .o (.fW e xs)){lo hi:aE}{v:bn}(hv:xC (c.P nm) lo hi v):da E w c.K v (.l e (eW xs lo hi)):=by obtain⟨h1,h2,ti,h3,h4⟩:=cg.obj nm _ h;exact JM h3 h1 h2 h4 hv
theorem BM(cg:Ok E σ w c){nm e e2 i j:aE}{xs:aQ}{te:TI}(h:σ (c9 nm)= .o (.row e ai xs))(ht:E.ty e=ah te)(hk:te.ks[j]? =ah (.l e2))(hi:i<(c.P nm).n):
  ∃ys y t2,xs[i]? =ah y/\y[j]? =ah (.l e2 ys)/\E.ty e2=ah t2/\plain t2.ks=ai/\(c.G nm i j).sz=t2.ks.length/\(∀y∈ys,y.map CV.kd=t2.ks)/\jl w (c.G nm i j) ys (λ_ _ u x=>Sc u x)/\xC (c.G nm i j) 0 ys.length (l_ (c.G nm i j)):=by
 obtain⟨⟨tj,htj,gj,mT⟩,gi,_⟩:=cg.obj nm _ h;obtain rfl:te=tj:=aJ (ht.symm.trans htj);obtain⟨zs,y,hy,hyj,uu,_,tk,HL,s8,LN,Er,oU⟩:=uP (c:=c) gi mT hi hk;refine⟨zs,y,tk,hy,hyj,HL,s8,LN,Er,oU, ?_⟩
 have:=MB (p:=c.G nm i j) (λhn=>by obtain⟨_,_,q,_⟩:=oU.mem hn;exact q) (λhn=>by rw[oU.n,(oU.nil hn).1];rfl);rwa[oU.n]at this
theorem PY{E:fT}{w:bM}{K:aE->Prop}{v:bn}{e:aE}{xs:aQ}(h:da E w K v (.l e xs)):xs.length<=maxLen:=by
 cases h with
 |nl=>exact bD _
 |l _ _ b o cp ti U ht hc hm=>exact dg hc hm
theorem uO{w:bM}{p:Pl}{xs:aQ}{R:aE->aE->bn->CV->Prop}(h:jl w p xs R):xs.length<=maxLen:=by
 cases hn:p.nil with
 |true=>rw[(h.nil hn).1];exact bD _
 |false=>obtain⟨vals,_,h2,h3,_⟩:=h.mem hn;rw[<-h.n];exact dg h2 h3
theorem KA(xs:aQ)(lo hi:aE):(eW xs lo hi).length<=xs.length:=by unfold eW;simp;omega
theorem AJ(cg:Ok E σ w c){x:AV}{v:bn}(hx:eF E w c x v){el:aE}{xs:aQ}{te:TI}(h:(mM E x).val σ=ah (el,xs))(ht:E.ty el=ah te)(hp:plain te.ks=ai):
  oy w v xs te.ks.length (λ_ _ u x=>Sc u x)/\(∀y∈xs,y.map CV.kd=te.ks)/\xs.length<=maxLen:=by
 have ofH:∀{xs:aQ} {v:bn},da E w c.K v (.l el xs)->oy w v xs te.ks.length (λ_ _ u x=>Sc u x)/\(∀y∈xs,y.map CV.kd=te.ks)/\xs.length<=maxLen:=by intro xs v hh;obtain⟨h1,h2⟩:=Aa ht hh;exact⟨h1.imp λi y j x u hi hj hr=>pC hr (iv hp (h2 y (aR hi)) hj),h2,PY hh⟩
 have ofR:∀{nm:aE} {ex:aU} {xs:aQ} {lo hi:aE} {v:bn},σ (c9 nm)= .o (.row el ex xs)->xC (c.P nm) lo hi v->oy w v (eW xs lo hi) te.ks.length (λ_ _ u x=>Sc u x)/\(∀y∈eW xs lo hi,y.map CV.kd=te.ks)/\(eW xs lo hi).length<=maxLen:=by
  intro nm ex xs lo hi v hg hv;obtain⟨t2,q1,q2,q3⟩:=yt cg hg hv;obtain rfl:te=t2:=aJ (ht.symm.trans q1);refine⟨q3.imp λi y j x u hi hj hr=> ?_,q2,dg (KA _ _ _) (uO (cg.obj nm _ hg).at_)⟩
  have hl:=iv hp (q2 y (aR hi)) hj;split at hr
  ·exact uS hr hl
  ·exact pC hr hl
 cases x with
 |sh e' ys=>obtain⟨rfl,rfl⟩:=bY (aJ h);exact ofH hx
 |own n=>
  obtain⟨ob,hg,h⟩:=Rd.bind_some h;have hg:=dz hg;have hx:v=l_ (c.P n):=hx;subst hx;cases ob with
  |row e' ex ys=>obtain⟨rfl,rfl⟩:=bY (aJ h);have:=ofR hg (wy cg hg);rwa[qW]at this
  |fW e' ys=>obtain⟨rfl,rfl⟩:=bY (aJ h);have:=ofH (pB cg hg (JB cg hg));rwa[qW]at this
  |_=>simp at h
 |vw n lo hi=>
  obtain⟨ob,hg,h⟩:=Rd.bind_some h;have hg:=dz hg;cases ob with
  |row e' ex ys=>obtain⟨rfl,rfl⟩:=bY (aJ h);exact ofR hg hx
  |fW e' ys=>obtain⟨rfl,rfl⟩:=bY (aJ h);exact ofH (pB cg hg hx)
  |_=>simp at h
 |inn n i j=>
  obtain⟨ob,hg,h⟩:=Rd.bind_some h;have hg:=dz hg;cases ob with
  |row e' ex ys=>
   cases ex with
   |false=>simp at h
   |true=>
   obtain⟨t1,ht1,h⟩:=Rd.bind_some h;have ht1:=dX ht1;split at h
   ·rename_i e2 Az;obtain⟨rfl,rfl⟩:=bY (aJ h);obtain⟨⟨kI,hx⟩,_⟩:=hx;obtain⟨zs,y,t2,q1,q2,q3,q4,q5,q6,q7,q8⟩:=BM cg hg ht1 Az kI;obtain rfl:te=t2:=aJ (ht.symm.trans q3);rw[fC q1 q2];have:=Mv q7 q8;rw[qW,q5]at this;subst hx;exact⟨this,q6,uO q7⟩
   ·simp at h
  |_=>simp at h
 |_=>simp[mM]at h
end
end Go.FG

namespace Go.FG
def f_(E:fT)(w:bM)(c:eZ)(vals:dt bn)(xs:az AV):Prop:=
 vals.size=xs.length/\∀(j:aE) (a:AV),xs[j]? =ah a->∃u:bn,vals[j]? =ah u/\eF E w c a u
theorem qo.cells{E:fT}{w:bM}{c:eZ}{agg:aU}{xs:az AV}{v:bn}(h:qo E w c agg xs v):f_ E w c v.cells xs:=by
 unfold qo at h;split at h
 ·rename_i a;rw[Fp h.one];refine⟨rfl,λj a' hj=> ?_⟩
  cases j with
  |zero=>simp at hj;subst hj;exact⟨v,rfl,h⟩
  |succ=>simp at hj
 ·obtain⟨vals,rfl,hs,hv⟩:=h;exact⟨hs,hv⟩
 ·exact h.elim
theorem f_.one{E:fT}{w:bM}{c:eZ}{xs:az AV}{vals:dt bn}(h:f_ E w c vals xs):∀u∈vals.toList,u.oneCell'=true:=by
 intro u hu;obtain⟨j,hj⟩:=b7 hu;have jt:j<xs.length:=by rw[<-h.1];have:=(aT.1 hj).1;simpa using this
 obtain⟨u',h1,h2⟩:=h.2 j xs[j] (by simp[jt]);rw[cX,h1]at hj;cases hj;exact h2.one
theorem vC{α:Type}{xs ys:az α}{j:aE}(h:j+ys.length<=xs.length):(iF xs j ys).length=xs.length:=by unfold iF;simp;omega
theorem pG{α:Type}{xs ys:az α}{j:aE}(h:j+ys.length<=xs.length)(k:aE):(iF xs j ys)[k]? =if j<=k/\k<j+ys.length then ys[k-j]? else xs[k]? :=by
 unfold iF;by_cases h1:k<j
 ·rw[bJ (by omega),cy,dF (by simp;omega),d_,bA h1]
 ·by_cases h2:k<j+ys.length
  ·rw[bA ⟨by omega,h2⟩,cy,db (by simp;omega),dF (by simp;omega)];congr 1;simp;omega
  ·rw[bJ (by omega),cy,db (by simp;omega),db (by simp;omega),dQ];congr 1;simp;omega
theorem CY{α:Type}{xs ys:az α}{j:aE}{x:α}(h:x∈iF xs j ys):x∈xs\/x∈ys:=by
 unfold iF at h;simp only[bf]at h;rcases h with (h|h)|h
 ·exact .inl (lk h)
 ·exact .inr h
 ·exact .inl (lj h)
theorem f_.put{E:fT}{w:bM}{c:eZ}{xs ys:az AV}{vals vs:dt bn}(h:f_ E w c vals xs)(h':f_ E w c vs ys){j:aE}(hl:j+ys.length<=xs.length):f_ E w c (ed vals j vs.toList) (iF xs j ys):=by
 have hb:j+vs.toList.length<=vals.size:=by rw[h.1,dS,h'.1];exact hl
 refine⟨by rw[e8 hb,vC hl];exact h.1,λk a hk=> ?_⟩
 rw[pG hl]at hk;rw[gu hb,dS,h'.1];split at hk
 ·rename_i hc;rw[bA hc,cX];exact h'.2 _ a hk
 ·rename_i hc;rw[bJ hc];exact h.2 k a hk
theorem Tp(off:aE):∀(l:az bn) (k:aE) (cells:dt bn),off+k+l.length<=cells.size->
  ((l.zipIdx k).foldl (λr p=>r.setIfInBounds (off+p.2) p.1) cells).size=cells.size/\
  ∀q:aE,((l.zipIdx k).foldl (λr p=>r.setIfInBounds (off+p.2) p.1) cells)[q]? =if off+k<=q/\q<off+k+l.length then l[q-(off+k)]? else cells[q]? :=by
 intro l;induction l with
 |nil=>intro k cells _;refine⟨rfl,λq=> ?_⟩;rw[bJ (by simp)];rfl
 |cons v rest ih=>
  intro k cells hl;simp only[dc]at hl;obtain⟨h1,h2⟩:=ih (k+1) (cells.setIfInBounds (off+k) v) (by simp;omega);simp only[List.zipIdx_cons,DX];refine⟨by rw[h1];simp,λq=> ?_⟩
  rw[h2 q];by_cases hq:q=off+k
  ·subst hq;rw[bJ (by omega),bA ⟨by omega,by simp⟩,ou,bA rfl,bA (by omega)];simp
  ·by_cases hr:off+(k+1)<=q/\q<off+(k+1)+rest.length
   ·rw[bA hr,bA ⟨by omega,by simp;omega⟩];rw[show q-(off+k)=(q-(off+(k+1)))+1 by omega,dM]
   ·rw[bJ hr,bJ (by simp;omega),ou,bJ (λh=>hq h.symm)]
theorem Fx{off:aE}{vs cells:dt bn}(h:off+vs.size<=cells.size):(vs.zipIdx.foldl (λr (p:bn×aE)=>r.setIfInBounds (off+p.2) p.1) cells)=ed cells off vs.toList:=by
 rw[<-Array.foldl_toList,Array.toList_zipIdx];obtain⟨h1,h2⟩:=Tp off vs.toList 0 cells (by simpa using h);have hb:off+vs.toList.length<=cells.size:=by simpa using h
 apply Array.ext_getElem?;intro q;rw[h2 q,gu hb];simp
theorem QO{E:fT}{w:bM}{c:eZ}{k:Ck}(h:(match k with| .o=>ak|_=>ai)=ai):eF E w c (DH k) (iK k):=by cases k<;>first|rfl|exact⟨rfl,bD _⟩|simp at h
theorem C1(k:Ck):bR (DH k)=[]:=by cases k<;>rfl
theorem KC{E:fT}{w:bM}{c:eZ}{ks:az Ck}(h:L5 ks=ai):f_ E w c (ks.map iK).toArray (ks.map DH):=by
 refine⟨by simp,λj a hj=> ?_⟩
 rw[bL]at hj;cases hk:ks[j]? with
 |none=>rw[hk]at hj;cases hj
 |some k=>rw[hk]at hj;cases hj;exact⟨iK k,by simp[hk],QO (bu.1 h k (aR hk))⟩
section
variable {P:cZ} {E:fT} {σ:St} {a:Act} {w:bM} {c:eZ} {o:fu} {nm:aE} {e:tc}
theorem Qn(hE:eA P E)(dI:fy E σ a w c){t:aE}{pl:az (aE×aE)}{size:aE}(s8:∀f o n,E.fo t f=ah (o,n)->pl[f]? =ah (o,n)/\o+n<=size):∀(ps:az (aE×dy)) (l:az (aE×az AV)),(H4 E t ps).val σ=ah l->
  ∀(vals:dt bn) (xs:az AV),f_ E w c vals xs->xs.length=size->(∀a∈xs,jk σ a)->
  ∃je,pK (λi=>pl[i]?) vals (ps.map λ(i,x)=>(i,a.eval x))=ah je/\f_ E w c je (NP xs l)/\(∀a∈NP xs l,jk σ a):=by
 intro ps;induction ps with
 |nil=>intro l h vals xs hv _ hk;obtain rfl:=aJ h;exact⟨vals,rfl,hv,hk⟩
 |cons p r ih=>
  obtain⟨f,x⟩:=p;intro l h vals xs hv gj hk;obtain⟨v,h1,h⟩:=Rd.bind_some h;obtain⟨P0,hkv⟩:=mD dI h1;cases v with
  |v g ys=>
   replace h:(match E.fo t f with|some (o,n)=>bif bF ys.length n then(H4 E t r).bind λl=> .ret ((o,ys)::l)else .fail|none=> .fail:Rd (az (aE×az AV))).val σ=ah l:=h;cases hf:E.fo t f with
   |none=>rw[hf]at h;simp at h
   |some q=>
    obtain⟨off,n⟩:=q;rw[hf]at h;obtain⟨hn,h⟩:=cR h;have hn:=aW hn;obtain⟨l',hl',h⟩:=Rd.bind_some h;obtain rfl:=aJ h;obtain⟨P3,hp2⟩:=s8 f off n hf;have hc:=qo.cells P0;have mQ:off+ys.length<=xs.length:=by omega
    obtain⟨je,q1,q2,q3⟩:=ih l' hl' (ed vals off (a.eval x).cells.toList) (iF xs off ys) (hv.put hc mQ) (by rw[vC mQ];exact gj)
     (λb hb=>by
      rcases CY hb with hb|hb
      ·exact hk b hb
      ·exact λn hn=>hkv n (bQ.2 ⟨b,hb,hn⟩))
    refine⟨je, ?_,q2,q3⟩
    simp only[fw,pK,P3];have c1:(a.eval x).cells.size=n:=by rw[hc.1,hn]
    have c2:¬(off+(a.eval x).cells.size>vals.size):=by rw[hc.1,hv.1];omega
    rw[bJ (by simp[c1];rw[c1]at c2;omega)];have:=Fx (off:=off) (vs:=(a.eval x).cells) (cells:=vals) (by omega);rw[<-q1];exact lV (λz=>pK (λi=>pl[i]?) z _) this
  |kq=>simp at h
  |un=>simp at h
theorem U2(hE:eA P E)(cg:Ok E σ w c)(dI:fy E σ a w c)(hd:∀d,o.dst=ah d->d<a.tmps.size){t:aE}{ps:dt (aE×dy)}(ho:o.op= .build t ps)(h:(mo E nm o).val σ=ah e):gZ P E σ a w c o e.ws:=by simp only[mo,ho]at h;obtain⟨ti,h1,h⟩:=Rd.bind_some h;obtain⟨hb,h⟩:=cR h;obtain⟨l,h2,h⟩:=Rd.bind_some h;have ht:=dX h1;simp only[aM]at hb;obtain⟨zN,uH⟩:=hb;obtain⟨inf,hi,gj,_,_,hz⟩:=hE.info t ti ht;obtain⟨z,KH,Eu,_⟩:=hz zN;obtain⟨d,hd',ha,_⟩:=hE.desc t ti ht;obtain⟨fs,rfl,LI⟩:=ha uH;obtain⟨pl,P3,hp2⟩:=hE.pl t ti ht uH fs hd';obtain⟨vals,q1,q2,q3⟩:=Qn (size:=ti.ks.length) hE dI (λf o n hf=>⟨hp2 f o n hf,(LI f o n hf).choose_spec.2.2.2.2⟩) ps.toList l h2 _ _ (KC (w:=w) (c:=c) (E:=E) zN) (by simp) (λb hb=>by obtain⟨k,_,rfl⟩:=cU.1 hb;exact uJ (C1 k));refine fZ cg dI hd h (v:= .agg vals) ⟨vals,rfl,q2.1,q2.2⟩ (λn hn=>by obtain⟨x,hx,hn⟩:=bQ.1 hn;exact q3 x hx n hn) ?_;unfold execOp;rw[ho];refine i_ (run_build w t _ vals ?_);simp only[Program.built,hi,hd',KH,P3,Eu,ig,AM];exact q1
theorem U5(hE:eA P E)(cg:Ok E σ w c)(dI:fy E σ a w c)(hd:∀d,o.dst=ah d->d<a.tmps.size){t f:aE}{x:dy}(ho:o.op= .field t x f)(h:(mo E nm o).val σ=ah e):gZ P E σ a w c o e.ws:=by
 simp only[mo,ho]at h;obtain⟨v,h1,h⟩:=Rd.bind_some h;obtain⟨hv,hk⟩:=mD dI h1;cases v with
 |v g xs=>
  cases g with
  |true=>
   cases hf:E.fo t f with
   |none=>rw[hf]at h;simp at h
   |some r=>
    obtain⟨j,n⟩:=r;rw[hf]at h;obtain⟨hb,h⟩:=cR h;rw[aM]at hb;cases hx:xs.drop j with
    |nil=>rw[hx]at h;simp at h
    |cons y ys=>
     rw[hx]at h;have hj:xs[j]? =ah y:=by have:=dQ (xs:=xs) (i:=j) (j:=0);rw[hx]at this;simpa using this.symm
     obtain⟨vals,q1,q2,q3⟩:∃vals:dt bn,a.eval x= .agg vals/\vals.size=xs.length/\∀(j:aE) (b:AV),xs[j]? =ah b->∃u:bn,vals[j]? =ah u/\eF E w c b u:=hv;obtain⟨u,hu,W4⟩:=q3 j y hj;obtain⟨ti,ht,uH⟩:=hE.fo t f j n hf;obtain⟨d,hd',ha,_⟩:=hE.desc t ti ht;obtain⟨fs,rfl,LI⟩:=ha uH;obtain⟨fd,g1,g2,_⟩:=LI f j n hf;have hAg:=hE.fl t f hb.1 fs fd hd' g1 w;refine fZ cg dI hd h (s:= .v ak [y]) (v:=u) W4 (λm hm=>hk m (bQ.2 ⟨y,aR hj,by simpa [cO]using hm⟩)) ?_;unfold execOp;rw[ho];refine i_ ?_;simp only[Instr.field,cj,run_underlying hd',bI,g1,q1,asAgg,cT,part,hAg,dx,if_false,g2,hu]
  |false=>simp at h
 |kq=>simp at h
 |un=>simp at h
theorem U0(hE:eA P E)(cg:Ok E σ w c)(dI:fy E σ a w c)(hd:∀d,o.dst=ah d->d<a.tmps.size){t:aE}(ho:o.op= .alloc t)(h:(mo E nm o).val σ=ah e):gZ P E σ a w c o e.ws:=by
 simp only[mo,ho]at h;obtain⟨ti,h1,h⟩:=Rd.bind_some h;obtain⟨hb,h⟩:=cR h;obtain⟨u,h2,h⟩:=Rd.bind_some h;obtain⟨hf,jt⟩:=kO h2;obtain rfl:=aJ h;have hr:=Qw (P:=P) w hE (dX h1) hb;refine CO cg dI hd (p:=⟨ak,w.heap.size,0,0,0,0⟩) (g:=λ_ _=>⟨ak,0,0,0,0,0⟩) hf jt (λc' hP _ _ _=> ?_) (λc' hP _ b hb=> ?_) (λxs hx b hb=> ?_) (λc' hP _=> ?_) (λn hn=> .inl (by simpa [cO,bR]using hn)) (λb hb=>heap_alloc_old w _ b hb) (by simp) rfl rfl rfl (v:= .pointer (ah (ad w.heap.size 0))) (w':=w.alloc (.cells (ti.ks.map iK).toArray t)) ?_
 ·obtain⟨z1,z2⟩:=KC (E:=E) (w:=w.alloc (.cells (ti.ks.map iK).toArray t)) (c:=c') hb;exact⟨_,by rw[hP];exact n8.alloc w _ t,z1,z2⟩
 ·have:b=(c'.P nm).blk:=hb;rw[this,hP];exact cG _
 ·cases hx;obtain⟨k,_,rfl⟩:=cU.1 hb;exact uJ (C1 k)
 ·show _=_;rw[hP]
 ·unfold execOp;rw[ho];exact i_ hr
theorem ag_(cg:Ok E σ w c)(dI:fy E σ a w c)(hd:∀d,o.dst=ah d->d<a.tmps.size){t:aE}{x:dy}(ho:o.op= .box t x)(h:(mo E nm o).val σ=ah e):gZ P E σ a w c o e.ws:=by
 simp only[mo,ho]at h;obtain⟨v,h1,h⟩:=Rd.bind_some h;obtain⟨hv,hk⟩:=mD dI h1;cases v with
 |v g xs=>
  obtain⟨u,h2,h⟩:=Rd.bind_some h;obtain⟨hf,jt⟩:=kO h2;obtain rfl:=aJ h;have hr:=VB (P:=P) w t (a.eval x);have kx:∀b∈xs,jk σ b:=λb hb n hn=>hk n (bQ.2 ⟨b,hb,hn⟩);have n_:=qo.cells hv;refine CO cg dI hd (p:=⟨ak,w.heap.size,0,0,0,0⟩) (g:=λ_ _=>⟨ak,0,0,0,0,0⟩) hf jt (λc' hP _ hK hA=> ?_) (λc' hP _ b hb=> ?_) (λys hx b hb=> ?_) (λc' hP _=> ?_) (λn hn=> .inl (by simpa [cO,bR]using hn)) (λb hb=>heap_alloc_old w _ b hb) (by simp) rfl rfl rfl (v:= .pointer (ah (ad w.heap.size 0))) (w':=w.alloc (.cells (a.eval x).cells t)) ?_
  ·refine⟨_,by rw[hP];exact n8.alloc w _ t,n_.1,λj y hj=> ?_⟩
   obtain⟨u,hu,hy⟩:=n_.2 j y hj;exact⟨u,hu,hy.frame (λb hb=>heap_alloc_old w _ b (cg.lt b hb)) hK (λn hn=>hA n (.inl (kx y (aR hj) n hn)))⟩
  ·have:b=(c'.P nm).blk:=hb;rw[this,hP];exact cG _
  ·cases hx;exact kx b hb
  ·show _=_;rw[hP]
  ·unfold execOp;rw[ho];exact i_ hr
 |kq=>simp at h
 |un=>simp at h
end
end Go.FG

namespace Go.FG
def L3(E:fT)(ks:az Ck)(_i j:aE):Pl:=
 ⟨ai,0,0,0,0,match ks[j]? with|some (.l e)=>(match E.ty e with|some t=>t.ks.length|none=>0)|_=>0⟩
theorem wm{p:Pl}{G:aE->aE->Pl}{xs:aQ}(h:∀i j,(G i j).nil=ai):Gt p G xs:=
 ⟨λi j _ hn=>(by rw[h]at hn;cases hn),λi j i' j' _ _ hn=>(by rw[h]at hn;cases hn)⟩
theorem O7{E:fT}{w:bM}{ks:az Ck}(hf:flat E ks=ai)(hn:L5 ks=ai){i j:aE}{k:Ck}(hk:ks[j]? =ah k):XC E w (L3 E ks) i j (iK k) (Ah k):=by
 have h1:=bu.1 hf k (aR hk);have h2:=bu.1 hn k (aR hk);cases k with
 |l e=>
  replace h1:(match E.ty e with|some ti=>plain ti.ks|none=>ak)=true:=h1;cases ht:E.ty e with
  |none=>rw[ht]at h1;cases h1
  |some t=>
   rw[ht]at h1;refine⟨rfl,t,ht,h1, ?_,λy hy=>(by cases hy),⟨rfl,λ_=>⟨rfl,rfl⟩,λh=>by cases h⟩⟩
   show(match ks[j]? with|some (.l e)=>(match E.ty e with|some t=>t.ks.length|none=>0)|_=>0)=_;rw[hk];simp only[ht]
 |o=>cases h2
 |s=>exact⟨rfl,bD _⟩
 |_=>exact⟨rfl,trivial⟩
theorem MI{E:fT}{w:bM}{K:aE->Prop}{k:Ck}(h2:(match k with| .o=>ak|_=>ai)=ai):da E w K (iK k) (Ah k):=by
 cases k with
 |o=>cases h2
 |i k=>exact .i _ _
 |b=>exact .b _
 |s=>exact .s _ (bD _)
 |l e=>exact .nl _ _ _
theorem aaC{k:Ck}(h2:(match k with| .o=>ak|_=>ai)=ai):(Ah k).kd=k:=by cases k<;>first|rfl|cases h2
theorem yL{ks:az Ck}(hn:L5 ks=ai)(n:aE):∀y∈aP ks n,y.map CV.kd=ks:=by
 intro y hy;rw[(List.mem_replicate.1 hy).2,mz];have:∀k∈ks,(CV.kd∘Ah) k=k:=λk hk=>aaC (bu.1 hn k hk);conv=>rhs;rw[<-List.map_id ks]
 exact QS this
theorem uT{ks:az Ck}{n i j:aE}{y:az CV}{x:CV}(hi:(aP ks n)[i]? =ah y)(hj:y[j]? =ah x):i<n/\∃k,ks[j]? =ah k/\x=Ah k:=by
 unfold aP at hi;have jt:=(aT.1 hi).1;rw[List.length_replicate]at jt;rw[List.getElem?_replicate,bA jt]at hi;cases hi;rw[bL]at hj;cases hk:ks[j]? with
 |none=>rw[hk]at hj;cases hj
 |some k=>rw[hk]at hj;cases hj;exact⟨jt,k,rfl,rfl⟩
theorem ma{ks:az Ck}{n i j:aE}{k:Ck}(hi:i<n)(hk:ks[j]? =ah k):(madeCells (ks.map iK).toArray (n*ks.length))[i*ks.length+j]? =ah (iK k):=by
 have hj:=(aT.1 hk).1;have jt:i*ks.length+j<n*ks.length:=by have:(i+1)*ks.length<=n*ks.length:=b_ _ hi;rw[dn]at this;omega
 have hm:(i*ks.length+j)%ks.length=j:=by rw[ET,Nat.mul_add_mod];exact Nat.mod_eq_of_lt hj
 unfold madeCells;rw[O9,Array.getElem?_range,bA jt,ji];congr 1;simp only[WQ,bV,hm];rw[getElem!_def,ig,bL,hk];rfl
theorem zQ{P:cZ}{E:fT}{σ:St}(hE:eA P E){t:aE}{k:nA}(h:(p_ E t).val σ=ah (.i k)):P.underlying t=ah (.int k):=by obtain⟨ti,h1,h2,h3⟩:=rT h;obtain⟨d,hd,_,hn⟩:=hE.desc t ti h1;rcases hn h2 with ⟨k,h,rfl⟩|⟨h,_⟩|⟨h,_⟩|⟨e',h,_⟩|⟨h,_⟩<;>rw[h3]at h<;>simp_all
theorem ND{P:cZ}{E:fT}(hE:eA P E){e:aE}{te:TI}(ht:E.ty e=ah te)(h:(u8s te.ks&& !te.agg)=ai):te.ks=[.i .u8]/\P.underlying e=ah (.int .u8):=by
 simp only[aM,dp]at h;have hk:te.ks=[.i .u8]:=by
  have:=h.1;unfold u8s at this;split at this
  ·assumption
  ·cases this
 obtain⟨d,hd,_,hn⟩:=hE.desc e te ht;refine⟨hk, ?_⟩
 rcases hn h.2 with ⟨k,h,rfl⟩|⟨h,_⟩|⟨h,_⟩|⟨e',h,_⟩|⟨h,_⟩<;>rw[hk]at h<;>simp_all
section
variable {P:cZ} {E:fT} {σ:St} {a:Act} {w:bM} {c:eZ} {o:fu} {nm:aE} {e:tc}
theorem Qx(hE:eA P E){src dst el:aE}{te:TI}(hs:P.underlying src=ah (.slice el))(hd:P.underlying dst=ah .string)(he:P.underlying el=ah (.int .u8))(hk:te.ks=[.i .u8]){v:bn}{xs:aQ}
  (h:oy w v xs te.ks.length (λ_ _ u x=>Sc u x)) (mT:∀y∈xs,y.map CV.kd=te.ks):(convert src dst v).run P w= .ok (.string (bytesOf xs)) w:=by
 obtain⟨A,cp,rfl,h2⟩:=h;by_cases hx:xs=[]
 ·subst hx;rw[jR];have e0:bytesOf []=Iv:=rfl;rw[e0];cases A with
  |none=>exact run_convert_bytes_nil w src el hs he 0 cp dst hd
  |some ad'=>rw[run_convert_bytes_string w src dst el _ 0 cp hs he hd];exact run_bytesToString w ad' 0 cp [] rfl
 ·obtain⟨b,oo,rfl,h3⟩:=h2 hx;have:=run_convert_bytes_arg w src el hs he b oo xs.length cp (xs.map λy=>bE (y.getD 0 (.b ak))) (by simp) (λi hi=>by
   have hy:=mT xs[i] (bB hi);rw[hk]at hy;cases hq:xs[i]with
   |nil=>rw[hq]at hy;cases hy
   |cons x r=>
    rw[hq]at hy;simp only[fw,List.cons.injEq,List.map_eq_nil_iff]at hy;obtain⟨hx1,rfl⟩:=hy;obtain⟨u,hu,hr⟩:=h3 i xs[i] 0 x (by simp[hi]) (by rw[hq];rfl);rw[hk]at hu;simp only[dc,jR,bX,Nat.mul_one,yZ]at hu;rw[hu,hr.1];cases x with
    |i k n=>cases hx1;simp[QB,kA,hi,hq,bE]
    |_=>cases hx1) dst hd
  rw[this];unfold strOfNums bytesOf;rw[mz];rfl
theorem iS(xs:aQ):(bytesOf xs).size=xs.length:=by unfold bytesOf;simp[eu]
theorem mn(s:aq):(qS s).length=s.size:=by unfold qS;simp
theorem H_{s:aq}{i j:aE}{y:az CV}{x:CV}(hi:(qS s)[i]? =ah y)(hj:y[j]? =ah x):j=0/\∃b,s.data[i]? =ah b/\x= .i .u8 (b.toNat:ax):=by
 unfold qS at hi;rw[bL,cX]at hi;cases hb:s.data[i]? with
 |none=>rw[hb]at hi;cases hi
 |some b=>
  rw[hb]at hi;cases hi;cases j with
  |zero=>cases hj;exact⟨rfl,b,rfl,rfl⟩
  |succ j=>simp at hj
theorem Kh(s:aq):∀y∈qS s,y.map CV.kd=[.i .u8]:=by intro y hy;obtain⟨b,_,rfl⟩:=cU.1 hy;rfl
theorem Ma(hE:eA P E)(cg:Ok E σ w c)(dI:fy E σ a w c)(hd:∀d,o.dst=ah d->d<a.tmps.size){src dst:aE}{x:dy}(ho:o.op= .convert src dst x)(h:(mo E nm o).val σ=ah e)(hc:e.cond=ai):gZ P E σ a w c o e.ws:=by
 simp only[mo,ho]at h;obtain⟨ks,h1,h⟩:=Rd.bind_some h;obtain⟨kd,h2,h⟩:=Rd.bind_some h;obtain⟨v,h3,h⟩:=Rd.bind_some h;obtain⟨ev,kv⟩:=jc dI h3;have exec:∀{u r:bn} {w':bM},a.eval x=u->(convert src dst u).run P w= .ok r w'->(execOp a.eval o).run P w= .ok (.value r) w':=by intro u r w' hu hr;unfold execOp;rw[ho];exact i_ (by rw[hu];exact hr)
 cases kd with
 |i k=>
  cases ks with
  |i k0=>
   cases v with
   |i k1 n=>refine fZ cg dI hd h (v:= .int k (k.wrap n)) rfl (λn hn=>by simp[cO,bR]at hn) (exec ev ?_);simp[convert,run_underlying (zQ hE h1),run_underlying (zQ hE h2),Conv.intToInt]
   |_=>simp at h
  |_=>simp at h
 |s=>
  have CP:=lA hE h2;cases ks with
  |s=>
   cases v with
   |s s=>refine fZ cg dI hd h (v:= .string s) ⟨rfl,ev.2⟩ (λn hn=>by simp[cO,bR]at hn) (exec ev.1 ?_);simp[convert,run_underlying (lA hE h1),run_underlying CP]
   |_=>simp at h
  |l el=>
   have Es:=kR hE h1;have gen:(∀e,v=e->((mM E e).bind λ(e,xs)=>(s6 E e).bind λte=>bif bF e el&&u8s te.ks&& !te.agg then My o (decide (xs.length<=4611686018427387904)) (.s (bytesOf xs))else .fail).val σ=ah ‹tc›)->gZ P E σ a w c o (‹tc›).ws:=by
    intro h;obtain⟨⟨e1,xs⟩,q1,h⟩:=Rd.bind_some (h v rfl);obtain⟨te,q2,h⟩:=Rd.bind_some h;have q2:=dX q2;obtain⟨q3,h9⟩:=cR h;rw[nS,aM]at q3;have:=aW q3.1;subst this;obtain⟨q4,q5⟩:=ND hE q2 q3.2;have hp:plain te.ks=true:=by rw[q4];rfl
    obtain⟨r1,r2,r3⟩:=AJ cg ev q1 q2 hp;exact F_ cg dI hd h9 hc (v:= .string (bytesOf xs)) (λhb=>⟨rfl,by unfold Ez;rw[iS];exact cq hb⟩) (uJ rfl) (λ_=>exec rfl (Qx hE Es CP q5 q4 r1 r2))
   cases v with
   |nl=>obtain⟨te,q1,h⟩:=Rd.bind_some h;obtain⟨q3,h⟩:=cR h;obtain⟨q4,q5⟩:=ND hE (dX q1) q3;exact fZ cg dI hd h (v:= .string Iv) ⟨rfl,bD _⟩ (λn hn=>by simp[cO,bR]at hn) (exec ev (run_convert_bytes_nil w src el Es q5 0 0 dst CP))
   |_=>exact gen (λ_ hv=>by cases hv;exact h)
  |_=>simp at h
 |_=>simp at h
theorem H2(hE:eA P E)(cg:Ok E σ w c)(dI:fy E σ a w c)(hd:∀d,o.dst=ah d->d<a.tmps.size){t:aE}{x y:dy}(ho:o.op= .makeSlice t x y)(h:(mo E nm o).val σ=ah e)(hc:e.cond=ai):gZ P E σ a w c o e.ws:=by
 simp only[mo,ho]at h;obtain⟨⟨k1,n⟩,h1,h⟩:=Rd.bind_some h;obtain⟨⟨k2,m⟩,h2,h⟩:=Rd.bind_some h;obtain⟨ti,h3,h⟩:=Rd.bind_some h;have ex:=qa dI h1;have ey:=qa dI h2;have h3:=dX h3;split at h
 ·rename_i el uH Bj;obtain⟨te,h4,h⟩:=Rd.bind_some h;have h4:=dX h4;obtain⟨h5,h⟩:=cR h;obtain⟨u,h6,h⟩:=Rd.bind_some h;obtain⟨hf,jt⟩:=kO h6;obtain rfl:=aJ h;generalize (bif plain te.ks then nm else nm+999)=nm at hf jt hc⊢;simp only[aM,bh,cw]at hc h5;obtain⟨⟨c0,rfl⟩,c1,c2⟩:=hc;obtain⟨zN,PR⟩:=h5;have hu:=pq hE h3 uH Bj;obtain⟨inf,hi,gj,hby,ly,hz⟩:=hE.info el te h4;obtain⟨z,KH,Eu,_⟩:=hz zN;have hr:=run_make (P:=P) w t el inf z hu hi KH k1 k2 n n c0 (Int.le_refl _) (by
   have e1:((n.toNat*te.bytes:aE):ax)<=140737488355328:=(by generalize n.toNat*te.bytes=q at c1⊢;omega)
   rw[hby,Int.mul_comm];rw[Xu,Int.toNat_of_nonneg c0]at e1;omega) (by omega)
  rw[Eu,gj]at hr;refine CO cg dI hd (p:=⟨ak,w.heap.size,0,n.toNat,n.toNat,te.ks.length⟩) (g:=L3 E te.ks) hf jt (λc' hP hG _ _=> ?_) (λc' hP hG b hb=> ?_) (λxs hx b hb=>by cases hx) (λc' hP _=> ?_) (λn hn=> .inl (by simpa [cO,bR]using hn)) (λb hb=>heap_alloc_old w _ b hb) (by simp) rfl rfl rfl (v:= .slice (ah ⟨w.heap.size,0,aj⟩) n.toNat n.toNat) (w':=w.alloc (.cells (madeCells (te.ks.map iK).toArray (n.toNat*te.ks.length)) el)) ?_
  ·refine⟨⟨te,h4,by rw[hP],yL zN _⟩, ?_,λ_=>wm (λi j=>(by rw[hG];try rfl))⟩
   rw[hP,hG];refine⟨by simp[aP],λhn=>(by cases hn),λ_=>⟨_,n8.alloc w _ el,cG _,(by show n.toNat<=2^63-1;omega),by rw[size_madeCells];simp,λi y j x hi hj=> ?_⟩⟩
   obtain⟨gC,k,hk,rfl⟩:=uT hi hj;refine⟨iK k, ?_,by rw[bA rfl];exact O7 PR zN hk⟩
   rw[bX];exact ma gC hk
  ·rcases hb with ⟨_,rfl⟩|⟨_,i,j,_,hn,_⟩
   ·rw[hP];exact cG _
   ·rw[hG]at hn;cases hn
  ·show _=l_ _;rw[hP];rfl
  ·unfold execOp;rw[ho];exact i_ (by rw[ex,ey];exact hr)
 ·simp at h
end
end Go.FG

namespace Go.FG
theorem jW{xs:aQ}{i j:aE}{cs:az CV}:(eC xs i j cs).length=xs.length:=by unfold eC;simp
theorem yA{xs:aQ}{i j:aE}{cs y:az CV}(hy:xs[i]? =ah y)(i':aE):(eC xs i j cs)[i']? =if i'=i then ah (iF y j cs)else xs[i']? :=by
 have jt:=(aT.1 hy).1;have hd:xs.getD i []=y:=by rw[cY,hy];rfl
 unfold eC;rw[QR,hd];by_cases h:i'=i
 ·subst h;simp[jt]
 ·rw[bJ h,bJ (λe=>h e.symm)]
theorem n8.uniq{w:bM}{b:aE}{v1 v2:dt bn}(h1:n8 w b v1)(h2:n8 w b v2):v1=v2:=by obtain⟨t,fr,h1,_⟩:=h1;obtain⟨t',fr',h2,_⟩:=h2;rw[h1]at h2;cases h2;rfl
theorem jl.pos{w:bM}{p:Pl}{xs:aQ}{R:aE->aE->bn->CV->Prop}(h:jl w p xs R){i:aE}(hi:i<p.n):p.nil=ak/\∃vals,n8 w p.blk vals:=by
 have jA:p.nil=false:=by
  cases hn:p.nil with
  |false=>rfl
  |true=>have:=(h.nil hn).1;subst this;have:=h.n;simp at this;omega
 obtain⟨vals,hb,_⟩:=h.mem jA;exact⟨jA,vals,hb⟩
theorem jl.amS{w:bM}{p:Pl}{xs:aQ}{R R':aE->aE->bn->CV->Prop}(h:jl w p xs R){vals:dt bn}(hbv:n8 w p.blk vals)(hs:∀y∈xs,y.length=p.sz){i j:aE}{cs:az CV}{vs:az bn}(hi:i<p.n)(hj:j+cs.length<=p.sz)(hl:vs.length=cs.length)
  (zM:∀(q:aE) (x:CV),cs[q]? =ah x->∃u:bn,vs[q]? =ah u/\R' i (j+q) u x)
  (hold:∀(i1:aE) (y:az CV) (j1:aE) (x:CV) (u:bn),xs[i1]? =ah y->y[j1]? =ah x->(i1≠i\/¬(j<=j1/\j1<j+cs.length))->R i1 j1 u x->R' i1 j1 u x):
  p.off+i*p.sz+j+vs.length<=vals.size/\jl (w.setRow p.blk (ed vals (p.off+i*p.sz+j) vs)) p (eC xs i j cs) R':=by
 have jA:p.nil=false:=by
  cases hn:p.nil with
  |false=>rfl
  |true=>have:=(h.nil hn).1;subst this;have:=h.n;simp at this;omega
 obtain⟨je,hb,TB,Yc,mQ,hc⟩:=h.mem jA;obtain rfl:=hbv.uniq hb;have mm:i<xs.length:=by rw[<-h.n];exact hi
 have hy:xs[i]? =ah xs[i]:=by simp[mm]
 have JQ:=hs xs[i] (bB mm);have h1:(i+1)*p.sz<=p.cap*p.sz:=b_ _ (by omega);rw[dn]at h1;have vu:p.off+i*p.sz+j+vs.length<=vals.size:=by omega
 refine⟨vu,⟨by rw[jW];exact h.n,λhn=>(by rw[jA]at hn;cases hn),λ_=> ?_⟩⟩
 refine⟨_,hb.setRow (e8 vu),TB,Yc,by rw[e8 vu];exact mQ,λi' y j' x kI PU=> ?_⟩
 rw[yA hy]at kI;rw[gu vu];by_cases JH:i'=i
 ·subst JH;rw[bA rfl]at kI;cases kI;rw[pG (by omega)]at PU;by_cases hq:j<=j'/\j'<j+cs.length
  ·rw[bA hq]at PU;rw[bA (by omega)];obtain⟨u,hu,hr⟩:=zM (j'-j) x PU;refine⟨u, ?_, ?_⟩
   ·rw[<-hu];congr 1;omega
   ·rwa[show j+(j'-j)=j' by omega]at hr
  ·rw[bJ hq]at PU;obtain⟨u,hu,hr⟩:=hc _ _ _ _ hy PU;exact⟨u,by rw[bJ (by omega)];exact hu,hold _ _ _ _ _ hy PU (.inr hq) hr⟩
 ·rw[bJ JH]at kI;obtain⟨u,hu,hr⟩:=hc _ _ _ _ kI PU;refine⟨u, ?_,hold _ _ _ _ _ kI PU (.inl JH) hr⟩
  have Em:j'<p.sz:=by rw[<-hs y (aR kI)];exact(aT.1 PU).1
  rw[bJ ?_];exact hu;rcases QU JH with jt|hgt
  ·have:(i'+1)*p.sz<=i*p.sz:=b_ _ jt;rw[dn]at this;omega
  ·have:(i+1)*p.sz<=i'*p.sz:=b_ _ hgt;rw[dn]at this;omega
theorem jl.put{w:bM}{p:Pl}{xs:aQ}{R R':aE->aE->bn->CV->Prop}(h:jl w p xs R){vals:dt bn}(hbv:n8 w p.blk vals)(hs:∀y∈xs,y.length=p.sz){i j:aE}{cs:az CV}{vs:az bn}(hi:i<p.n)(hj:j+cs.length<=p.sz)(hl:vs.length=cs.length)
  (zM:∀(q:aE) (x:CV),cs[q]? =ah x->∃u:bn,vs[q]? =ah u/\R' i (j+q) u x)
  (hold:∀(i:aE) (y:az CV) (j:aE) (x:CV) (u:bn),xs[i]? =ah y->y[j]? =ah x->R i j u x->R' i j u x):
  p.off+i*p.sz+j+vs.length<=vals.size/\jl (w.setRow p.blk (ed vals (p.off+i*p.sz+j) vs)) p (eC xs i j cs) R':=
 h.amS hbv hs hi hj hl zM (λi1 y j1 x u h1 h2 _ hr=>hold i1 y j1 x u h1 h2 hr)
theorem lz{xs:aQ}{ks:az Ck}(h:∀y∈xs,y.map CV.kd=ks)(i j:aE):gm xs i j↔i<xs.length/\∃e,ks[j]? =ah (.l e):=by
 constructor
 ·rintro ⟨y,x,hy,hx,hl⟩;refine⟨(aT.1 hy).1, ?_⟩
  cases x with
  |l e ys=>exact⟨e,by rw[<-h y (aR hy),bL,hx];rfl⟩
  |i=>simp[uI]at hl
  |b=>simp[uI]at hl
  |s=>simp[uI]at hl
 ·rintro ⟨hi,e,hk⟩;have hy:xs[i]? =ah xs[i]:=by simp[hi]
  have h1:=h xs[i] (bB hi);rw[<-h1,bL]at hk;cases hx:xs[i][j]? with
  |none=>rw[hx]at hk;cases hk
  |some x=>
   rw[hx]at hk;cases x with
   |l e2 ys=>exact⟨_,_,hy,hx,rfl⟩
   |i=>cases hk
   |b=>cases hk
   |s=>cases hk
theorem P6{y cs:az CV}{ks:az Ck}{j:aE}(hy:y.map CV.kd=ks)(hc:cs.map CV.kd=(ks.drop j).take cs.length)(hj:j+cs.length<=ks.length):(iF y j cs).map CV.kd=ks:=by
 have hl:y.length=ks.length:=by rw[<-hy];simp
 apply WN;intro q;rw[bL,pG (by omega)];split
 ·rename_i h;have:(cs.map CV.kd)[q-j]? =((ks.drop j).take cs.length)[q-j]? :=by rw[hc]
  rw[bL]at this;rw[this,d_,bA (by omega),dQ];congr 1;omega
 ·rw[<-hy,bL]
theorem yC{xs:aQ}{ks:az Ck}{i j:aE}{cs:az CV}(h:∀y∈xs,y.map CV.kd=ks)(hc:cs.map CV.kd=(ks.drop j).take cs.length)(hj:j+cs.length<=ks.length)(hi:i<xs.length):∀y∈eC xs i j cs,y.map CV.kd=ks:=by
 intro y hy;obtain⟨q,hq⟩:=b7 hy;rw[yA (y:=xs[i]) (by simp[hi])]at hq;split at hq
 ·cases hq;exact P6 (h _ (bB hi)) hc hj
 ·exact h y (aR hq)
section
variable {P:cZ} {E:fT} {σ:St} {a:Act} {w:bM} {c:eZ} {o:fu} {nm:aE} {e:tc}
theorem zG{ex:aU}{k:Ck}{x:AV}{cv:CV}{ws:az (aE×eP)}{u:bn}(hp:plain [k]=ai)(h:(Jq ex k x).val σ=ah (cv,ws))(hx:eF E w c x u):cv.kd=k/\Sc u cv/\uI cv=ak/\ws=[]:=by
 cases k with
 |i k=>
  cases x with
  |i k' n=>
   replace h:(if k=k' then Rd.ret (CV.i k n,[])else .fail:Rd (CV×az (aE×eP))).val σ=ah (cv,ws):=h;split at h
   ·rename_i hk;subst hk;obtain⟨rfl,rfl⟩:=bY (aJ h);exact⟨rfl,⟨hx,trivial⟩,rfl,rfl⟩
   ·simp at h
  |_=>simp[Jq]at h
 |b=>
  cases x with
  |b n=>obtain⟨rfl,rfl⟩:=bY (aJ h);exact⟨rfl,⟨hx,trivial⟩,rfl,rfl⟩
  |_=>simp[Jq]at h
 |s=>
  cases x with
  |s n=>obtain⟨rfl,rfl⟩:=bY (aJ h);exact⟨rfl,hx,rfl,rfl⟩
  |_=>simp[Jq]at h
 |l=>simp[plain]at hp
 |o=>simp[plain]at hp
theorem CD{ex:aU}:∀{ks:az Ck} {xs:az AV} {cs:az CV} {ws:az (aE×eP)} (hp:plain ks=ai) (h:(zH ex ks xs).val σ=ah (cs,ws)),cs.map CV.kd=ks/\cs.length=xs.length/\ws=[]/\
  ∀(vals:dt bn),f_ E w c vals xs->∀(q:aE) (x:CV),cs[q]? =ah x->vals[q]? =ah (QB x)/\uI x=ak/\okC x:=by
 intro ks;induction ks with
 |nil=>
  intro xs cs ws hp h;cases xs with
  |nil=>obtain⟨rfl,rfl⟩:=bY (aJ h);exact⟨rfl,rfl,rfl,λ_ _ q x hq=>by simp at hq⟩
  |cons=>simp[zH]at h
 |cons k ks ih=>
  intro xs cs ws hp h;cases xs with
  |nil=>simp[zH]at h
  |cons x xs=>
   obtain⟨⟨cv,w1⟩,h1,h⟩:=Rd.bind_some h;obtain⟨⟨cr,w2⟩,h2,h⟩:=Rd.bind_some h;obtain⟨rfl,rfl⟩:=bY (aJ h);simp only[plain,u0,aM]at hp;have P3:plain [k]=true:=by simp[plain,hp.1]
   have hp2:plain ks=true:=hp.2;obtain⟨i1,i2,i3,i4⟩:=ih hp2 h2;have e1:=λu (hu:eF E w c x u)=>zG P3 h1 hu;have kd1:cv.kd=k/\w1=[]:=by
    cases k<;>cases x<;>simp[Jq,plain]at h1 P3<;>first
     |(obtain⟨rfl,rfl⟩:=h1;exact⟨rfl,rfl⟩)
     |(split at h1<;>simp at h1;rename_i hk;subst hk;obtain⟨rfl,rfl⟩:=h1;exact⟨rfl,rfl⟩)
   refine⟨by simp[kd1.1,i1],by simp[i2],by rw[kd1.2,i3];rfl,λvals hv q y hq=> ?_⟩
   cases q with
   |zero=>cases hq;obtain⟨u,hu,ha⟩:=hv.2 0 x rfl;obtain⟨_,⟨rfl,ho⟩,hl,_⟩:=e1 u ha;exact⟨hu,hl,ho⟩
   |succ q=>
    have N1:f_ E w c (vals.extract 1 vals.size) xs:=by
     refine⟨by simp;have:=hv.1;simp at this;omega,λj b hj=> ?_⟩
     obtain⟨u,hu,hb⟩:=hv.2 (j+1) b hj;refine⟨u, ?_,hb⟩
     have:=(dV.1 hu).1;rw[ea,bA (by omega),jd];exact hu
    obtain⟨r1,r2⟩:=i4 _ N1 q y hq;refine⟨?_,r2⟩
    rw[ea]at r1;split at r1
    ·rw[jd];exact r1
    ·cases r1
theorem aax{s:Sem Unit}{w':bM}(hr:s.run P w= .ok () w'):(do s;pure Next.skip:Sem Next).run P w= .ok .skip w':=by simp only[cj,hr,bI,cT]
theorem FR:∀{ys:az AV} {q0 q n2:aE},zW q0 ys=ah (q,n2)->q0<=q/\ys[q-q0]? =ah (.own n2)/\∀(k m:aE),ys[k]? =ah (.own m)->k=q-q0:=by
 have ZP:∀{ys:az AV},J6 ys=ai->∀(k m:aE),ys[k]? ≠ah (.own m):=by
  intro ys;induction ys with
  |nil=>intro h k m h;simp at h
  |cons y ys ih=>
   intro h k m hk;cases y with
   |own n=>cases h
   |_=>
    cases k with
    |zero=>cases hk
    |succ k=>exact ih (by simpa [J6]using h) k m hk
 intro ys;induction ys with
 |nil=>intro q0 q n2 h;cases h
 |cons y ys ih=>
  intro q0 q n2 h;have step:zW (q0+1) ys=ah (q,n2)->(∀m,y≠ .own m)->q0<=q/\(y::ys)[q-q0]? =ah (.own n2)/\∀(k m:aE),(y::ys)[k]? =ah (.own m)->k=q-q0:=by
   intro h hy;obtain⟨h1,h2,h3⟩:=ih h;have e:q-q0=(q-(q0+1))+1:=by omega
   refine⟨by omega,by rw[e,dM];exact h2,λk m hk=> ?_⟩
   cases k with
   |zero=>cases hk;exact cL rfl (hy m)
   |succ k=>have:=h3 k m hk;omega
  cases y with
  |own n=>
   unfold zW at h;cases h1:J6 ys with
   |false=>rw[h1]at h;cases h
   |true=>
    rw[h1]at h;cases h;refine⟨cG _,by rw[Nat.sub_self];rfl,λk m hk=> ?_⟩
    cases k with
    |zero=>omega
    |succ k=>exact cL hk (ZP h1 k m)
  |_=>exact step (by simpa [zW]using h) (λm h=>by cases h)
theorem XW{E:fT}{w:bM}{c:eZ}{e2 n2:aE}{zs:aQ}:∀{ks:az Ck} {ys:az AV} {cs:az CV},Eh e2 n2 zs ks ys=ah cs->cs.map CV.kd=ks/\cs.length=ys.length/\
  ∀(q:aE) (x:CV),cs[q]? =ah x->∃y,ys[q]? =ah y/\((uI x=ak/\∀u,eF E w c y u->Sc u x)\/(x= .l e2 zs/\y= .own n2)):=by
 intro ks;induction ks with
 |nil=>
  intro ys cs h;cases ys with
  |nil=>cases h;exact⟨rfl,rfl,λq x h=>by simp at h⟩
  |cons=>cases h
 |cons k ks ih=>
  intro ys cs h
  have go:∀{y:AV} {r:az AV} {x:CV},ys=y::r->(Eh e2 n2 zs ks r).map (x:: ·)=ah cs->x.kd=k->((uI x=ak/\∀u,eF E w c y u->Sc u x)\/(x= .l e2 zs/\y= .own n2))->
    cs.map CV.kd=k::ks/\cs.length=ys.length/\∀(q:aE) (x:CV),cs[q]? =ah x->∃y,ys[q]? =ah y/\((uI x=ak/\∀u,eF E w c y u->Sc u x)\/(x= .l e2 zs/\y= .own n2)):=by
   intro y r x hy hm hk hx
   subst hy
   cases hr:Eh e2 n2 zs ks r with
   |none=>rw[hr]at hm;cases hm
   |some cr=>
    rw[hr]at hm;cases hm;obtain⟨i1,i2,i3⟩:=ih hr;refine⟨by simp[hk,i1],by simp[i2],λq z hq=> ?_⟩
    cases q with
    |zero=>cases hq;exact⟨y,rfl,hx⟩
    |succ q=>exact i3 q z hq
  cases ys with
  |nil=>cases k<;>cases h
  |cons y r=>
   cases k with
   |i k=>
    cases y with
    |i k' n=>
     unfold Eh at h;split at h
     ·rename_i hk;subst hk;exact go rfl h rfl (.inl ⟨rfl,λu hu=>⟨hu,trivial⟩⟩)
     ·cases h
    |_=>cases h
   |b=>
    cases y with
    |b n=>exact go rfl h rfl (.inl ⟨rfl,λu hu=>⟨hu,trivial⟩⟩)
    |_=>cases h
   |s=>
    cases y with
    |s n=>exact go rfl h rfl (.inl ⟨rfl,λu hu=>hu⟩)
    |_=>cases h
   |l e=>
    cases y with
    |own n=>
     unfold Eh at h;cases hb:(bF e e2&&bF n n2)with
     |false=>rw[hb]at h;cases h
     |true=>rw[hb,au]at h;simp only[aM]at hb;have:=aW hb.1;subst this;have:=aW hb.2;subst this;exact go rfl h rfl (.inr ⟨rfl,rfl⟩)
    |_=>cases h
   |o=>cases y<;>cases h
theorem PI(cg:Ok E σ w c)(dI:fy E σ a w c)(hd:∀d,o.dst=ah d->d<a.tmps.size){n i j:aE}{ys:az AV}{ws:az (aE×eP)}{X:dt bn}(hF:zP n=ai)(hi:i<(c.P n).n)(h:(Ik E n i j ys).val σ=ah ws)(n_:f_ E w c X ys)(ly:0<ys.length)
  (exec:∀(cur:dt bn),n8 w (c.P n).blk cur->(c.P n).off+i*(c.P n).sz+j+X.size<=cur.size->(execOp a.eval o).run P w= .ok .skip (w.setRow (c.P n).blk (ed cur ((c.P n).off+i*(c.P n).sz+j) X.toList))):gZ P E σ a w c o (ws++dw o .un):=by
 unfold Ik at h;obtain⟨ob,hg0,h⟩:=Rd.bind_some h;have hg:=dz hg0;split at h
 ·rename_i el xs;obtain⟨te,h6,h⟩:=Rd.bind_some h;have h6:=dX h6;split at h
  ·rename_i q n2 xT;cases hb0:bF n n2 with
   |true=>rw[hb0]at h;simp at h
   |false=>
    rw[hb0,aw]at h;have iz:n≠n2:=λe=>by subst e;rw[Nat.beq_refl]at hb0;cases hb0
    obtain⟨ob2,att,h⟩:=Rd.bind_some h;have hg2:=dz att;split at h
    ·rename_i e2 zs;obtain⟨t2,h7,h⟩:=Rd.bind_some h;have h7:=dX h7;obtain⟨h8,h⟩:=cR h;simp only[aM]at h8;obtain⟨s8,hle⟩:=h8;have hle:=cM hle;split at h
     ·rename_i cs IG;obtain rfl:=aJ h;obtain⟨m1,m2,m3⟩:=XW (E:=E) (w:=w) (c:=c) IG;obtain⟨_,_,hu⟩:=FR xT;rw[sA]at hu;obtain⟨⟨t1,q1,gj,mT⟩,gi,gC⟩:=cg.obj n _ hg;obtain rfl:te=t1:=aJ (h6.symm.trans q1);obtain⟨⟨t3,q3,LN,Er⟩,oU,_⟩:=cg.obj n2 _ hg2;obtain rfl:t2=t3:=aJ (h7.symm.trans q3);have j8:j+cs.length<=te.ks.length:=by rw[m2];exact hle
      have hkd:cs.map CV.kd=(te.ks.drop j).take cs.length:=by rw[m1,m2]
      have mm:i<xs.length:=by rw[<-gi.n];exact hi
      obtain⟨jA,vals,hb⟩:=gi.pos hi;have JI:=lz mT;have sQ:=yC mT hkd j8 mm;have CQ:=lz sQ;have same:∀i' j',gm (eC xs i j cs) i' j'->gm xs i' j':=λi' j' hx=>(JI i' j').2 (by have:=(CQ i' j').1 hx;rwa[jW]at this);have JQ:∀y∈xs,y.length=(c.P n).sz:=λy hy=>by rw[gj,<-mT y hy];simp
      let w':=w.setRow (c.P n).blk (ed vals ((c.P n).off+i*(c.P n).sz+j) X.toList);have rS:∀b,b≠(c.P n).blk->w'.heap[b]? =w.heap[b]? :=λb hb=>setRow_other w _ b _ hb;have awz:∀i j,¬gm zs i j:=by rintro i j ⟨y,x,h1,h2,h3⟩;rw[iv s8 (Er y (aR h1)) h2]at h3;cases h3
      have Z1:(c.P n2).nil=ak->fL c n2 (.row e2 ai zs) (c.P n2).blk:=λhn=> .inl ⟨hn,rfl⟩;have Mg:fL c n (.row el ai xs) (c.P n).blk:= .inl ⟨jA,rfl⟩;have ak5:(c.P n2).nil=ak->(c.P n2).blk≠(c.P n).blk:=λhn he=>iz (cg.sep n _ n2 _ _ hg hg2 Mg (by rw[<-he];exact Z1 hn));let c':eZ:=⟨c.P,λm i' j'=>if m=n/\i'=i/\j'=j+q then c.P n2 else c.G m i' j',c.K⟩
      have hG1:c'.G n i (j+q)=c.P n2:=bA ⟨rfl,rfl,rfl⟩;have hG2:∀i' j',¬(i'=i/\j'=j+q)->c'.G n i' j'=c.G n i' j':=λi' j' h=>bJ (λe=>h ⟨e.2.1,e.2.2⟩);have hG3:∀m,m≠n->c'.G m=c.G m:=λm hm=>by funext i' j';exact bJ (λe=>hm e.1)
      have Yx:∀i' j',gm (eC xs i j cs) i' j'->(c'.G n i' j').nil=ak->(i'=i/\j'=j+q/\(c.P n2).nil=ak/\(c'.G n i' j').blk=(c.P n2).blk)\/(¬(i'=i/\j'=j+q)/\(c.G n i' j').nil=ak/\(c'.G n i' j').blk=(c.G n i' j').blk/\fL c n (.row el ai xs) (c.G n i' j').blk):=by
       intro i' j' hh hn;by_cases he:i'=i/\j'=j+q
       ·obtain⟨rfl,rfl⟩:=he;rw[hG1]at hn⊢;exact .inl ⟨rfl,rfl,hn,rfl⟩
       ·rw[hG2 i' j' he]at hn⊢;exact .inr ⟨he,hn,rfl, .inr ⟨rfl,i',j',same i' j' hh,hn,rfl⟩⟩
      obtain⟨mQ,Bh⟩:=jl.amS (R':=λi1 j1 u1 x1=>if ai=ai then XC E w' (c'.G n) i1 j1 u1 x1 else da E w' c'.K u1 x1) gi hb JQ (i:=i) (j:=j) (cs:=cs) (vs:=X.toList) hi (by rw[gj];exact j8) (by rw[dS,n_.1,m2])
       (λk x hk=>by
        obtain⟨y,hy,hxy⟩:=m3 k x hk;obtain⟨u,hu1,hu2⟩:=n_.2 k y hy;refine⟨u,by rw[cX];exact hu1, ?_⟩
        rw[bA rfl];rcases hxy with ⟨hl,hsc⟩|⟨rfl,rfl⟩
        ·exact uQ hl (hsc u hu2)
        ·have wj:k=q:=hu k n2 hy;subst wj;have hu2:u=l_ (c.P n2):=hu2;refine⟨by rw[hG1];exact hu2,t2,h7,s8,by rw[hG1];exact LN,Er, ?_⟩
         rw[hG1];exact oU.frame (λhn=>rS _ (ak5 hn)) (λi1 j1 y1 x1 u1 g1 g2 hr=>by rw[bA rfl]at hr;exact uS hr (iv s8 (Er y1 (aR g1)) g2)))
       (λi1 y1 j1 x1 u1 h1 h2 atX hr=>by
        rw[bA rfl]at hr⊢;have Ep:XC E w' (c.G n) i1 j1 u1 x1:=hr.frame (λhl hn=>rS _ ((gC rfl).out i1 j1 ⟨y1,x1,h1,h2,hl⟩ hn jA));have atK:¬(i1=i/\j1=j+q):=by
         rintro ⟨rfl,rfl⟩;have hq:q<cs.length:=by obtain⟨_,hq,_⟩:=FR xT;rw[sA]at hq;rw[m2];exact(aT.1 hq).1
         rcases atX with h|h
         ·exact h rfl
         ·exact h ⟨by omega,by omega⟩
        cases x1 with
        |l ee zz=>obtain⟨r1,r2⟩:=Ep;unfold XC;rw[hG2 i1 j1 atK];exact⟨r1,r2⟩
        |i=>exact Ep
        |b=>exact Ep
        |s=>exact Ep)
      have hr:=exec vals hb (by rw[dS]at mQ;exact mQ);let σ1:=pS (pS σ (c9 n) (.o (.row el ai (eC xs i j cs)))) (c9 n2) (.o .dead);obtain⟨s1,s2,s3⟩:=sg σ1 o .un;have key:∀m,wr σ1 (dw o .un) (c9 m)=if m=n2 then .o .dead else if m=n then .o (.row el ai (eC xs i j cs))else σ (c9 m):=λm=>by rw[s3];show(pS (pS σ (c9 n) (.o (.row el ai (eC xs i j cs)))) (c9 n2) (.o .dead)) (c9 m)=_;rw[qd,qd]
      have ake:∀m,σ (c9 m)≠ .j9->wr σ1 (dw o .un) (c9 m)≠ .j9:=λm hm=>by rw[key];split;simp;split;simp;exact hm
      have hA:rj σ c c':=λm _=>⟨rfl,λhf=>hG3 m (λe=>by subst e;rw[hF]at hf;cases hf)⟩
      have hCh:∀m,m=n\/m=n2->∃ob,σ (c9 m)= .o ob:=by rintro m (rfl|rfl);exact⟨_,hg⟩;exact⟨_,hg2⟩
      have gT:∀m x,(m=n\/m=n2)->wr σ1 (dw o .un) (c9 m)= .o x->(m=n2/\x= .dead)\/(m=n/\x= .row el ai (eC xs i j cs)):=by
       intro m x hm hx;rw[key]at hx;by_cases XV:m=n2
       ·rw[bA XV]at hx;cases hx;exact .inl ⟨XV,rfl⟩
       ·rw[bJ XV,bA (hm.resolve_right XV)]at hx;cases hx;exact .inr ⟨hm.resolve_right XV,rfl⟩
      have hh:=cg.xF (σ':=wr σ1 (dw o .un)) (w':=w') (c':=c') (λm=>m=n\/m=n2) (λm hm=>by rw[key,bJ (λe=>hm (.inr e)),bJ (λe=>hm (.inl e))]) ake hA (λm hm _=>hG3 m (λe=>hm (.inl e)))
       (λb _ Yg=>rS b (λe=>Yg ⟨n,_, .inl rfl,hg,by rw[e];exact Mg⟩)) (by simp[w',lP]) (λ_ h=>h) (λ_ h=> .inl h) (λb hb=>jy (cg.lt b hb) (by simp[w',lP]))
       (λm x hm hx=>by
        rcases gT m x hm hx with ⟨rfl,rfl⟩|⟨rfl,rfl⟩
        ·trivial
        ·refine⟨⟨te,q1,gj,sQ⟩,Bh,λ_=>⟨λi1 j1 hh hn _ he=> ?_,λi1 j1 i2 j2 h1 h2 n1 n2' he=> ?_⟩⟩
         ·rcases Yx i1 j1 hh hn with ⟨_,_,g1,g2⟩|⟨_,g1,g2,g3⟩
          ·exact ak5 g1 (g2.symm.trans he)
          ·exact(gC rfl).out i1 j1 (same i1 j1 hh) g1 jA (g2.symm.trans he)
         ·rcases Yx i1 j1 h1 n1 with ⟨a1,a2,a3,a4⟩|⟨a1,a2,a3,a4⟩<;>rcases Yx i2 j2 h2 n2' with ⟨b1,b2,b3,b4⟩|⟨b1,b2,b3,b4⟩
          ·exact⟨a1.trans b1.symm,a2.trans b2.symm⟩
          ·exfalso;exact iz (cg.sep m _ n2 _ _ hg hg2 b4 (by rw[<-b3,<-he,a4];exact Z1 a3))
          ·exfalso;exact iz (cg.sep m _ n2 _ _ hg hg2 a4 (by rw[<-a3,he,b4];exact Z1 b3))
          ·exact(gC rfl).one i1 j1 i2 j2 (same i1 j1 h1) (same i2 j2 h2) a2 b2 (a3.symm.trans (he.trans b3)))
       (λm x b hm hx hf=>by
        rcases gT m x hm hx with ⟨rfl,rfl⟩|⟨rfl,rfl⟩
        ·exact hf.elim
        ·have aj6:ka (λk=>k=m\/k=n2) σ c b:=by
          rcases hf with ⟨_,rfl⟩|⟨_,i1,j1,hh,hn,rfl⟩
          ·exact⟨m,_, .inl rfl,hg,Mg⟩
          ·rcases Yx i1 j1 hh hn with ⟨_,_,g1,g2⟩|⟨_,g1,g2,g3⟩
           ·rw[g2];exact⟨n2,_, .inr rfl,hg2,Z1 g1⟩
           ·rw[g2];exact⟨m,_, .inl rfl,hg,g3⟩
         exact⟨.inl aj6,cg.J7 aj6.own⟩)
       (λm x m' x' b hm xS hx pL hf vt=>by
        rcases gT m x hm hx with ⟨rfl,rfl⟩|⟨rfl,rfl⟩
        ·exact hf.elim
        ·rcases gT m' x' xS pL with ⟨rfl,rfl⟩|⟨rfl,rfl⟩
         ·exact vt.elim
         ·rfl)
       (λm bs hm hx=>by rcases gT m _ hm hx with ⟨_,h⟩|⟨_,h⟩<;>cases h) rfl rfl rfl
      intro K Q hK;refine DG hr (hK undef w' c' hh.1 ?_ hh.2 hA);refine dI.xF cg hh.2 hA ake o undef (λk hk=>by rw[s1 k hk];show slot (pS (pS σ (c9 n) (.o (.row el ai (eC xs i j cs)))) (c9 n2) (.o .dead)) k=_;rw[js,js]) (λd ho=>⟨hd d ho, ?_, ?_⟩)
      ·rw[s2 d ho];trivial
      ·rw[s2 d ho];intro k hk;simp[cO]at hk
     ·simp at h
    ·simp at h
  ·simp at h
 ·simp at h
theorem U_(hE:eA P E)(cg:Ok E σ w c)(dI:fy E σ a w c)(hd:∀d,o.dst=ah d->d<a.tmps.size){t:aE}{p x:dy}(ho:o.op= .store t p x)(h:(mo E nm o).val σ=ah e):gZ P E σ a w c o e.ws:=by
 simp only[mo,ho]at h;obtain⟨ti,h1,h⟩:=Rd.bind_some h;obtain⟨pv,h2,h⟩:=Rd.bind_some h;obtain⟨xv,h3,h⟩:=Rd.bind_some h;have h1:=dX h1;obtain⟨ep,kp⟩:=jc dI h2;obtain⟨ex,kx⟩:=mD dI h3;cases xv with
 |v g ys=>
  obtain⟨h4,h⟩:=cR h;have h4:=aW h4;obtain⟨ws,h5,h⟩:=Rd.bind_some h;obtain rfl:=aJ h;have n_:=qo.cells ex;have IG:(a.eval x).cells.size=ti.ks.length:=by rw[n_.1,h4]
  have ky:∀b∈ys,jk σ b:=λb hb n hn=>kx n (bQ.2 ⟨b,hb,hn⟩);obtain⟨_,_,_,_,ly,_⟩:=hE.info t ti h1;have exec:∀{b of:aE} {cur:dt bn},a.eval p= .pointer (ah (ad b of))->n8 w b cur->of+(a.eval x).cells.size<=cur.size->(execOp a.eval o).run P w= .ok .skip (w.setRow b (ed cur of (a.eval x).cells.toList)):=by intro b of cur hp hb hf;unfold execOp;rw[ho];refine aax ?_;rw[hp];exact Ko w hE h1 IG hb hf n_.one
  have hkK:∀(b:aE) (new:dt bn),wS σ c b->∀b',c.K b'->(w.setRow b new).heap[b']? =w.heap[b']? :=by intro b new hb b' hk;exact setRow_other w b b' new (λe=>by subst e;exact cg.J7 hb hk)
  have h5:(Il E pv ys).val σ=ah ws\/∃n i j,pv= .rp n i j/\zP n=ai/\(Ik E n i j ys).val σ=ah ws:=by
   cases pv with
   |rp n i j=>
    unfold Wn at h5;simp only at h5;cases hF:zP n with
    |true=>rw[hF,au]at h5;exact .inr ⟨n,i,j,rfl,hF,h5⟩
    |false=>rw[hF,aw]at h5;exact .inl h5
   |_=>exact .inl h5
  rcases h5 with h5|⟨n,i,j,rfl,hF,h5⟩
  rotate_left
  ·obtain⟨hpi,hpv⟩:=ep;exact PI cg dI hd hF hpi h5 n_ (by rw[<-h4]at ly;exact ly) (λcur hb hf=>exec hpv hb hf)
  cases pv with
  |bp n j=>
   obtain⟨ob,hg,h5⟩:=Rd.bind_some h5;have hg:=dz hg;cases ob with
   |box xs=>
    obtain⟨h6,h5⟩:=cR h5;have h6:=cM h6;obtain rfl:=aJ h5;obtain⟨cur,hb,gj,hcv⟩:=cg.obj n _ hg;have wk:wS σ c (c.P n).blk:=⟨n,_,hg,rfl⟩
    have mQ:j+(a.eval x).cells.size<=cur.size:=by rw[n_.1,gj];exact h6
    have aj1:j+(a.eval x).cells.toList.length<=cur.size:=by rw[dS];exact mQ
    have DO:=hkK (c.P n).blk (ed cur j (a.eval x).cells.toList) wk;refine tI cg dI hd hg (ob':= .box (iF xs j ys)) ?_ (λb hb=>hb) (λzs hz b hb=> ?_) (s:= .un) trivial (λn hn=>by simp[cO]at hn) (λb hb Q_=>setRow_other w _ b _ (λe=>Q_ e)) (by simp[lP]) rfl rfl rfl (.inr ⟨exec ep hb mQ,rfl⟩)
    ·have:=(f_.put (E:=E) (w:=w) (c:=c) ⟨gj,hcv⟩ n_ h6)
     refine⟨_,hb.setRow (e8 aj1),this.1,λq b hq=> ?_⟩
     obtain⟨u,hu,hub⟩:=this.2 q b hq;exact⟨u,hu,hub.frame DO (λ_ h=>h) (λ_ _=>⟨rfl,rfl⟩)⟩
    ·cases hz;rcases CY hb with hb|hb
     ·exact cg.kn n xs hg b hb
     ·exact ky b hb
   |_=>simp at h5
  |rp n i j=>
   obtain⟨ob,hg,h5⟩:=Rd.bind_some h5;have hg:=dz hg;cases ob with
   |row el Bf xs=>
    obtain⟨te,h6,h5⟩:=Rd.bind_some h5;have h6:=dX h6;obtain⟨h7,h5⟩:=cR h5;obtain⟨⟨cs,w2⟩,h8,h5⟩:=Rd.bind_some h5;obtain rfl:=aJ h5;obtain⟨m1,m2,_,m3⟩:=CD (E:=E) (w:=w) (c:=c) h7 h8;obtain⟨⟨t2,q1,gj,mT⟩,gi,gC⟩:=cg.obj n _ hg;obtain rfl:te=t2:=aJ (h6.symm.trans q1);obtain⟨hi,hpv⟩:=ep;have hlk:cs.length=((te.ks.drop j).take ys.length).length:=by rw[<-m1];simp
    have j8:j+cs.length<=te.ks.length:=by
     rw[eL,iC]at hlk;have:0<cs.length:=by rw[m2,h4];exact ly
     omega
    have hkd:cs.map CV.kd=(te.ks.drop j).take cs.length:=by rw[m1,m2]
    have mm:i<xs.length:=by rw[<-gi.n];exact hi
    have jA:(c.P n).nil=false:=by
     cases hn:(c.P n).nil with
     |false=>rfl
     |true=>have:=(gi.nil hn).1;subst this;simp at mm
    have wk:wS σ c (c.P n).blk:=⟨n,_,hg, .inl ⟨jA,rfl⟩⟩
    have DO:=λnew=>hkK (c.P n).blk new wk;have JI:=lz mT;have sQ:=yC mT hkd j8 mm;have CQ:=lz sQ;have same:∀i' j',gm (eC xs i j cs) i' j'->gm xs i' j':=λi' j' hx=>(JI i' j').2 (by have:=(CQ i' j').1 hx;rwa[jW]at this);obtain⟨_,vals,hb⟩:=gi.pos hi;have JQ:∀y∈xs,y.length=(c.P n).sz:=λy hy=>by rw[gj,<-mT y hy];simp
    have atr:=DO (ed vals ((c.P n).off+i*(c.P n).sz+j) (a.eval x).cells.toList);have hw:∀b,c.K b->(w.setRow (c.P n).blk (ed vals ((c.P n).off+i*(c.P n).sz+j) (a.eval x).cells.toList)).heap[b]? =w.heap[b]? :=atr;generalize NY:w.setRow (c.P n).blk (ed vals ((c.P n).off+i*(c.P n).sz+j) (a.eval x).cells.toList)=w' at hw;have rS:∀b,b≠(c.P n).blk->w'.heap[b]? =w.heap[b]? :=λb hb=>by rw[<-NY];exact setRow_other w _ b _ hb
    obtain⟨mQ,Bh⟩:=jl.put (R':=λi1 j1 u1 x1=>if Bf=ai then XC E w' (c.G n) i1 j1 u1 x1 else da E w' c.K u1 x1) gi hb JQ (i:=i) (j:=j) (cs:=cs) (vs:=(a.eval x).cells.toList) hi (by rw[gj];exact j8) (by rw[dS,n_.1,m2])
     (λq y hq=>by
      obtain⟨r1,r2,r3⟩:=m3 _ n_ q y hq;refine⟨QB y,by rw[cX];exact r1, ?_⟩
      split
      ·exact uQ r2 ⟨rfl,r3⟩
      ·exact kV r2 ⟨rfl,r3⟩)
     (λi1 y1 j1 x1 u1 h1 h2 hr=>by
      cases Bf with
      |true=>rw[bA rfl]at hr⊢;exact hr.frame (λhl hn=>rS _ ((gC rfl).out i1 j1 ⟨y1,x1,h1,h2,hl⟩ hn jA))
      |false=>rw[bJ (by simp)]at hr⊢;exact hr.frame hw (λ_ h=>h))
    rw[NY]at Bh;refine tI cg dI hd hg (ob':= .row el Bf (eC xs i j cs)) ?_ ?_ (λzs hz=>by cases hz) (s:= .un) trivial (λn hn=>by simp[cO]at hn) (w':=w') (λb hb Q_=>rS b (λe=>Q_ (.inl ⟨jA,e⟩))) (by rw[<-NY];simp[lP]) (by rw[<-NY];rfl) (by rw[<-NY];rfl) (by rw[<-NY];rfl) (.inr ⟨?_,rfl⟩)
    ·exact⟨⟨te,q1,gj,sQ⟩,Bh,λhx=>⟨λi1 j1 hh=>(gC hx).out i1 j1 (same i1 j1 hh),λi1 j1 i2 j2 h1 h2=>(gC hx).one i1 j1 i2 j2 (same i1 j1 h1) (same i2 j2 h2)⟩⟩
    ·rintro b (hb|⟨hx,i1,j1,hh,hn⟩)
     ·exact .inl hb
     ·exact .inr ⟨hx,i1,j1,same i1 j1 hh,hn⟩
    ·rw[<-NY];refine exec hpv hb ?_;rw[dS]at mQ;exact mQ
   |_=>simp at h5
  |ip n i j i2 j2=>
   obtain⟨ob,hg,h5⟩:=Rd.bind_some h5;have hg:=dz hg;cases ob with
   |row el Bf xs=>
    cases Bf with
    |false=>simp at h5
    |true=>
    obtain⟨te,h6,h5⟩:=Rd.bind_some h5;have h6:=dX h6;split at h5
    ·rename_i e2 Az;obtain⟨t2,h7,h5⟩:=Rd.bind_some h5;have h7:=dX h7;obtain⟨h8,h5⟩:=cR h5;obtain⟨⟨cs,w2⟩,h9,h5⟩:=Rd.bind_some h5;obtain rfl:=aJ h5;have akl:plain ((t2.ks.drop j2).take ys.length)=true:=bu.2 (λk hk=>bu.1 h8 k (lj (lk hk)));obtain⟨m1,m2,_,m3⟩:=CD (E:=E) (w:=w) (c:=c) akl h9;obtain⟨⟨hi,sE,hpv⟩,_⟩:=ep;obtain⟨⟨t1,q1,gj,mT⟩,gi,gC⟩:=cg.obj n _ hg;obtain rfl:te=t1:=aJ (h6.symm.trans q1);obtain⟨zs,y,t3,r1,r2,r3,r4,r5,r6,r7,_⟩:=BM cg hg h6 Az hi;obtain rfl:t2=t3:=aJ (h7.symm.trans r3);rw[fC r1 r2];simp only[iX];have hlk:cs.length=((t2.ks.drop j2).take ys.length).length:=by rw[<-m1];simp
     have j8:j2+cs.length<=t2.ks.length:=by
      rw[eL,iC]at hlk;have:0<cs.length:=by rw[m2,h4];exact ly
      omega
     have hkd:cs.map CV.kd=(t2.ks.drop j2).take cs.length:=by rw[m1,m2]
     have atw:i2<zs.length:=by rw[<-r7.n];exact sE
     have mm:i<xs.length:=(aT.1 r1).1;obtain⟨CS,vals,hb⟩:=r7.pos sE;obtain⟨jA,pv,hpb⟩:=gi.pos hi;have El:gm xs i j:=⟨y,_,r1,r2,rfl⟩
     have wk:wS σ c (c.G n i j).blk:=⟨n,_,hg, .inr ⟨rfl,i,j,El,CS,rfl⟩⟩
     have hw:=hkK (c.G n i j).blk (ed vals ((c.G n i j).off+i2*(c.G n i j).sz+j2) (a.eval x).cells.toList) wk;have LP:∀y∈zs,y.length=(c.G n i j).sz:=λy hy=>by rw[r5,<-r6 y hy];simp
     obtain⟨mQ,Bh⟩:=jl.put (R':=λ_ _ u1 x1=>Sc u1 x1) r7 hb LP (i:=i2) (j:=j2) (cs:=cs) (vs:=(a.eval x).cells.toList) sE (by rw[r5];exact j8) (by rw[dS,n_.1,m2])
      (λq y hq=>⟨QB y,by rw[cX];exact(m3 _ n_ q y hq).1,rfl,(m3 _ n_ q y hq).2.2⟩) (λ_ _ _ _ _ _ _ hr=>hr)
     generalize NY:w.setRow (c.G n i j).blk (ed vals ((c.G n i j).off+i2*(c.G n i j).sz+j2) (a.eval x).cells.toList)=w' at hw Bh;have rS:∀b,b≠(c.G n i j).blk->w'.heap[b]? =w.heap[b]? :=λb hb=>by rw[<-NY];exact setRow_other w _ b _ hb
     have hjk:j<te.ks.length:=(aT.1 Az).1;have afR:[CV.l e2 (eC zs i2 j2 cs)].map CV.kd=(te.ks.drop j).take [CV.l e2 (eC zs i2 j2 cs)].length:=by rw[bC,List.take_one,List.head?_drop,Az];rfl
     have sQ:=yC (i:=i) (j:=j) (cs:=[CV.l e2 (eC zs i2 j2 cs)]) mT afR (by simp;omega) mm;have JI:=lz mT;have CQ:=lz sQ;have same:∀i' j',gm (eC xs i j [CV.l e2 (eC zs i2 j2 cs)]) i' j'->gm xs i' j':=λi' j' hx=>(JI i' j').2 (by have:=(CQ i' j').1 hx;rwa[jW]at this);have afZ:(c.P n).blk≠(c.G n i j).blk:=λe=>(gC rfl).out i j El CS jA e.symm;have oU:jl w' (c.P n) (eC xs i j [CV.l e2 (eC zs i2 j2 cs)]) (λi1 j1 u1 x1=>if ai=ai then XC E w' (c.G n) i1 j1 u1 x1 else da E w' c.K u1 x1):=by
      obtain⟨vs,k1,k2,k3,k4,k5⟩:=gi.mem jA;refine⟨by rw[jW];exact gi.n,λhn=>(by rw[jA]at hn;cases hn),λ_=>⟨vs,k1.frame (rS _ afZ),k2,k3,k4,λi1 y1 j1 x1 g1 g2=> ?_⟩⟩
      rw[yA r1]at g1;simp only[if_true]at k5⊢;by_cases JH:i1=i
      ·subst JH;rw[bA rfl]at g1;cases g1;have JQ:y.length=te.ks.length:=by rw[<-mT y (aR r1)];simp
       rw[pG (by simp;omega)]at g2;by_cases hq:j<=j1/\j1<j+[CV.l e2 (eC zs i2 j2 cs)].length
       ·rw[bA hq]at g2;have:j1=j:=by simp at hq;omega
        subst this;simp at g2;subst g2;obtain⟨u,hu,hr⟩:=k5 _ _ _ _ r1 r2;refine⟨u,hu,hr.1,t2,r3,r4,r5,yC r6 hkd j8 atw,Bh⟩
       ·rw[bJ hq]at g2;obtain⟨u,hu,hr⟩:=k5 _ _ _ _ r1 g2;refine⟨u,hu,hr.frame (λhl hn=>rS _ (λe=> ?_))⟩
        have:=((gC rfl).one _ _ _ _ ⟨y,x1,r1,g2,hl⟩ El hn CS e).2;simp at hq;omega
      ·rw[bJ JH]at g1;obtain⟨u,hu,hr⟩:=k5 _ _ _ _ g1 g2;exact⟨u,hu,hr.frame (λhl hn=>rS _ (λe=>JH ((gC rfl).one _ _ _ _ ⟨y1,x1,g1,g2,hl⟩ El hn CS e).1))⟩
     refine tI cg dI hd hg (ob':= .row el ai (eC xs i j [CV.l e2 (eC zs i2 j2 cs)])) ?_ ?_ (λzs hz=>by cases hz) (s:= .un) trivial (λn hn=>by simp[cO]at hn) (w':=w') (λb hb Q_=>rS b (λe=>Q_ (.inr ⟨rfl,i,j,El,CS,e⟩))) (by rw[<-NY];simp[lP]) (by rw[<-NY];rfl) (by rw[<-NY];rfl) (by rw[<-NY];rfl) (.inr ⟨?_,rfl⟩)
     ·exact⟨⟨te,q1,gj,sQ⟩,oU,λhx=>⟨λi1 j1 hh=>(gC hx).out i1 j1 (same i1 j1 hh),λi1 j1 i2 j2 h1 h2=>(gC hx).one i1 j1 i2 j2 (same i1 j1 h1) (same i2 j2 h2)⟩⟩
     ·rintro b (hb|⟨hx,i1,j1,hh,hn⟩)
      ·exact .inl hb
      ·exact .inr ⟨hx,i1,j1,same i1 j1 hh,hn⟩
     ·rw[<-NY];refine exec hpv hb ?_;rw[dS]at mQ;exact mQ
    ·simp at h5
   |_=>simp at h5
  |_=>simp[Il]at h5
 |kq=>simp at h
 |un=>simp at h
end
end Go.FG

namespace Go.FG
theorem Qo{ks:az Ck}(h:plain ks=ai):L5 ks=true:=by refine bu.2 (λk hk=> ?_);have:=bu.1 h k hk;cases k<;>first|rfl|exact this
theorem tZ{xs:aQ}{ks:az Ck}(h:∀y∈xs,y.map CV.kd=ks)(hp:plain ks=ai){i j:aE}:¬gm xs i j:=by intro hx;obtain⟨_,e,hk⟩:=(lz h i j).1 hx;have:=bu.1 hp _ (aR hk);cases this
theorem Jk{xs z:aQ}{lo hi:aE}(h1:lo<=hi)(h2:hi<=xs.length)(hz:z.length=hi-lo)(i:aE):(xs.take lo++z++xs.drop hi)[i]? =if lo<=i/\i<hi then z[i-lo]? else xs[i]? :=by
 by_cases a:i<lo
 ·rw[bJ (by omega),cy,dF (by simp;omega),d_,bA a]
 ·by_cases b:i<hi
  ·rw[bA ⟨by omega,b⟩,cy,db (by simp;omega),dF (by simp;omega)];congr 1;simp;omega
  ·rw[bJ (by omega),cy,db (by simp;omega),db (by simp;omega),dQ];congr 1;simp;omega
section
variable {P:cZ} {E:fT} {σ:St} {a:Act} {w:bM} {c:eZ} {o:fu} {nm:aE} {e:tc}
theorem Qy{t ty el:aE}{z:bn}{inf:KU}(hu:P.underlying t=ah (.slice el))(hi:P.info? el=ah inf)(hz:inf.zero=ah z){b of n cp:aE}{cur:dt bn}(hn:0<n)(hb:n8 w b cur)(hf:of+n*z.cells.size<=cur.size)(h1:∀u∈z.cells.toList,u.oneCell'=ai):
  (oW #[t] ty #[.slice (ah (ad b of)) n cp]).run P w= .ok (.tuple #[]) (w.setRow b (ed cur of (madeCells z.cells (n*z.cells.size)).toList)):=by
 have LM:=nQ (P:=P) w (o:=of) (vs:=(madeCells z.cells (n*z.cells.size)).toList) hb (by simpa [size_madeCells]using hf) (λv hv=>by
  unfold madeCells at hv;simp only[AM,cU]at hv;obtain⟨q,hq,rfl⟩:=hv;have hq:q<n*z.cells.size:=by simpa using hq
  have hp:0<z.cells.size:=by rcases DL z.cells.size with h|h;(rw[h]at hq;simp at hq);exact h
  have:q%z.cells.size<z.cells.size:=DM _ hp;rw[getElem!_pos z.cells _ this];exact h1 _ (by simp))
 have hz':(fO z.cells n)=madeCells z.cells (n*z.cells.size):=rfl;cases n with
 |zero=>omega
 |succ n=>simp[oW,run_underlying hu,zeroValue,typeInfo,hi,hz,hz',LM]
theorem Dq{t ty el:aE}(hu:P.underlying t=ah (.slice el)){A:aA Addr}{cp:aE}:(oW #[t] ty #[.slice A 0 cp]).run P w= .ok (.tuple #[]) w:=by cases A<;>simp[oW,run_underlying hu]
theorem U3(hE:eA P E)(cg:Ok E σ w c)(dI:fy E σ a w c)(hd:∀d,o.dst=ah d->d<a.tmps.size){cl:Call}(ho:o.op= .call cl)(hb:cl.callee= .builtin .clear)(h:(mo E nm o).val σ=ah e):gZ P E σ a w c o e.ws:=by
 simp only[mo,ho,hb]at h;split at h
 ·rename_i x hx;split at h
  ·rename_i t ht;obtain⟨k,hk,h⟩:=Rd.bind_some h;cases k with
   |l el=>
    obtain⟨v,h1,h⟩:=Rd.bind_some h;obtain⟨ws,h2,h⟩:=Rd.bind_some h;obtain rfl:=aJ h;obtain⟨ev,kv⟩:=jc dI h1;have hu:=kR hE hk;have hx:=nK hx;have ht:=nK ht;have exec:∀{w'},(oW #[t] o.type #[a.eval x]).run P w= .ok (.tuple #[]) w'->(execOp a.eval o).run P w= .ok (.value (.tuple #[])) w':=by intro w' hr;obtain⟨cs,IG⟩:=m9 (P:=P) (a:=a) (w:=w) ho hb;rw[IG,hx,ht];simp only[builtin,DY,fw,Ce];exact i_ hr
    have sv:jm E w c (.kq []) (.tuple #[]):=⟨#[],rfl,rfl,λj agg xs hj=>by simp at hj⟩
    have aj:∀A cp,a.eval x= .slice A 0 cp->(execOp a.eval o).run P w= .ok (.value (.tuple #[])) w:=λA cp hv=>exec (by rw[hv];exact Dq hu);have main:∀(n:aE) (ex:aU) (xs:aQ) (lo hi:aE) (te:TI),σ (c9 n)= .o (.row el ex xs)->E.ty el=ah te->plain te.ks=ai->xC (c.P n) lo hi (a.eval x)->gZ P E σ a w c o ([(c9 n, .o (.row el ex (xs.take lo++aP te.ks (hi-lo)++xs.drop hi)))]++dw o (.kq [])):=by
     intro n ex xs lo hi te hg LO s8 hv;obtain⟨⟨t2,q1,gj,mT⟩,gi,gC⟩:=cg.obj n _ hg;obtain rfl:te=t2:=aJ (LO.symm.trans q1);obtain⟨v1,v2,v3,v4⟩:=hv;have hle:hi<=xs.length:=by rw[<-gi.n];exact v2
     have zN:=Qo s8;have LP:(aP te.ks (hi-lo)).length=hi-lo:=by simp[aP]
     by_cases hz:hi-lo=0
     ·have ako:xs.take lo++aP te.ks (hi-lo)++xs.drop hi=xs:=by
       have:hi=lo:=by omega
       subst this;simp[aP]
      rw[ako];have hr:(execOp a.eval o).run P w= .ok (.value (.tuple #[])) w:=by
       cases hq:(c.P n).nil with
       |true=>exact aj _ _ (v3 hq)
       |false=>
        rcases v4 hq with ⟨_,h⟩|⟨_,oo,_,h⟩
        ·rw[hz]at h;exact aj _ _ h
        ·exact aj _ _ h
      exact tI cg dI hd hg (cg.obj n _ hg) (λb hb=>hb) (λzs hz=>by cases hz) sv (λn hn=>by simp[cO]at hn) (λb _ _=>rfl) (cG _) rfl rfl rfl (.inl hr)
     ·have jA:(c.P n).nil=false:=by
       cases hq:(c.P n).nil with
       |false=>rfl
       |true=>have:=(gi.nil hq).1;subst this;simp at hle;omega
      obtain⟨vals,k1,k2,k3,k4,k5⟩:=gi.mem jA;rcases v4 jA with ⟨u1,hv⟩|⟨u1,oo,_,hv⟩
      ·obtain⟨inf,kI,aBu,_,_,KH⟩:=hE.info el te LO;obtain⟨z,Eu,hz3,_⟩:=KH zN;have Re:z.cells.size=te.ks.length:=by rw[hz3];simp
       have PN:(c.P n).off+lo*(c.P n).sz+(hi-lo)*z.cells.size<=vals.size:=by rw[Re,<-gj,mi,<-dn];have:(lo+(hi-lo))*(c.P n).sz<=(c.P n).cap*(c.P n).sz:=b_ _ (by omega);omega
       have hr:=Qy (P:=P) (w:=w) (ty:=o.type) (of:=(c.P n).off+lo*(c.P n).sz) (n:=hi-lo) (cp:=(c.P n).cap-lo) hu kI Eu (by omega) k1 PN (by rw[hz3];intro u sF;obtain⟨k,vv,rfl⟩:=cU.1 (by simpa using sF:u∈te.ks.map iK);cases k<;>rfl);rw[<-hv]at hr;have wk:wS σ c (c.P n).blk:=⟨n,_,hg, .inl ⟨jA,rfl⟩⟩
       rw[Re,hz3]at hr;have hml:(madeCells (te.ks.map iK).toArray ((hi-lo)*te.ks.length)).toList.length=(hi-lo)*te.ks.length:=by simp[size_madeCells]
       have afI:(c.P n).off+lo*(c.P n).sz+(madeCells (te.ks.map iK).toArray ((hi-lo)*te.ks.length)).toList.length<=vals.size:=by rw[hml,<-Re];exact PN
       have FE:=k1.setRow (e8 afI);have aj2:=gu afI;generalize zM:ed vals ((c.P n).off+lo*(c.P n).sz) (madeCells (te.ks.map iK).toArray ((hi-lo)*te.ks.length)).toList=new at hr FE aj2;have atL:new.size=vals.size:=by rw[<-zM];exact e8 afI
       have rS:∀b,b≠(c.P n).blk->(w.setRow (c.P n).blk new).heap[b]? =w.heap[b]? :=λb hb=>setRow_other w _ b _ hb;have hw:∀b,c.K b->(w.setRow (c.P n).blk new).heap[b]? =w.heap[b]? :=λb hk=>rS b (λe=>by subst e;exact cg.J7 wk hk);have sQ:∀y∈xs.take lo++aP te.ks (hi-lo)++xs.drop hi,y.map CV.kd=te.ks:=by
        intro y hy;rw[bf,bf]at hy;rcases hy with (hy|hy)|hy
        ·exact mT y (lk hy)
        ·exact yL zN _ y hy
        ·exact mT y (lj hy)
       refine tI cg dI hd hg (ob':= .row el ex (xs.take lo++aP te.ks (hi-lo)++xs.drop hi)) ?_ ?_ (λzs hz=>by cases hz) (w':=w.setRow (c.P n).blk new) ⟨#[],rfl,rfl,λj agg xs hj=>by simp at hj⟩ (λn hn=>by simp[cO]at hn) (λb _ Q_=>rS b (λe=>Q_ (.inl ⟨jA,e⟩))) (by simp[lP]) rfl rfl rfl (.inl (exec hr))
       ·refine⟨⟨te,LO,gj,sQ⟩,⟨?_,λhn=>(by rw[jA]at hn;cases hn),λ_=>⟨new,FE,k2,k3,by rw[atL];exact k4,λi y j x mm hj=> ?_⟩⟩,λ_=>⟨λi j hh=>cL hh (tZ sQ s8),λi j i' j' hh=>cL hh (tZ sQ s8)⟩⟩
        ·rw[gi.n];simp[aP];omega
        ·have hl:=iv s8 (sQ y (aR mm)) hj;have j8:j<te.ks.length:=by rw[<-sQ y (aR mm),bV];exact(aT.1 hj).1
         have toR:∀u,Sc u x->(if ex=ai then XC E (w.setRow (c.P n).blk new) (c.G n) i j u x else da E (w.setRow (c.P n).blk new) c.K u x):=by
          intro u hu;split
          ·exact uQ hl hu
          ·exact kV hl hu
         rw[Jk v1 hle LP]at mm;rw[aj2,hml];by_cases hq:lo<=i/\i<hi
         ·rw[bA hq]at mm;obtain⟨aj5,k,hk1,rfl⟩:=uT mm hj;have h2:(i-lo+1)*te.ks.length<=(hi-lo)*te.ks.length:=b_ _ aj5;have h3:i*te.ks.length=lo*te.ks.length+(i-lo)*te.ks.length:=by rw[<-dn];congr 1;omega
          rw[dn]at h2;rw[gj,bA (by omega)];refine⟨iK k, ?_,toR _ ?_⟩
          ·have:=ma (n:=hi-lo) aj5 hk1;rw[cX,<-this];congr 1;omega
          ·have Yj:=bu.1 s8 k (aR hk1);cases k<;>first|exact⟨rfl,trivial⟩|exact⟨rfl,bD _⟩|cases Yj
         ·rw[bJ hq]at mm;obtain⟨u,sF,Ep⟩:=k5 i y j x mm hj;refine⟨u, ?_,toR u ?_⟩
          ·rw[bJ ?_];exact sF;rw[gj];by_cases CR:i<lo
           ·have:(i+1)*te.ks.length<=lo*te.ks.length:=b_ _ CR;rw[dn]at this;omega
           ·have:hi*te.ks.length<=i*te.ks.length:=b_ _ (by omega);have h3:hi*te.ks.length=lo*te.ks.length+(hi-lo)*te.ks.length:=by rw[<-dn];congr 1;omega
            omega
          ·split at Ep
           ·exact uS Ep hl
           ·exact pC Ep hl
       ·rintro b (hb|⟨_,i,j,hh,_⟩)
        ·exact .inl hb
        ·exact cL hh (tZ sQ s8)
      ·omega
    unfold S9 at h2;cases v with
    |nl=>obtain rfl:=aJ h2;exact gL cg dI hd sv (λn hn=>by simp[cO]at hn) (aj _ _ ev)
    |own n=>
     obtain⟨ob,hg,h2⟩:=Rd.bind_some h2;have hg:=dz hg;cases ob with
     |row e' ex xs=>obtain⟨te,q1,h2⟩:=Rd.bind_some h2;obtain⟨q2,h2⟩:=cR h2;obtain rfl:=aJ h2;simp only[aM]at q2;have:=aW q2.1;subst this;have ev:a.eval x=l_ (c.P n):=ev;have:=main n ex xs 0 xs.length te hg (dX q1) q2.2 (by rw[ev];exact wy cg hg);simpa using this
     |_=>simp at h2
    |vw n lo hi=>
     obtain⟨ob,hg,h2⟩:=Rd.bind_some h2;have hg:=dz hg;cases ob with
     |row e' ex xs=>obtain⟨te,q1,h2⟩:=Rd.bind_some h2;obtain⟨q2,h2⟩:=cR h2;obtain rfl:=aJ h2;simp only[aM]at q2;have:=aW q2.1;subst this;exact main n ex xs lo hi te hg (dX q1) q2.2 ev
     |_=>simp at h2
    |_=>simp at h2
   |_=>simp at h
  ·simp at h
 ·simp at h
end
end Go.FG

namespace Go.FG
def kB(D:az (aE×Obj)):az (aE×eP):=D.map λd=>(c9 d.1, .o d.2)
def uW(D:az (aE×Obj))(m:aE):Prop:=∃x,(m,x)∈D
theorem aaw:∀(D:az (aE×Obj)) (σ:St),(∀m,(wr σ (kB D) (c9 m)=σ (c9 m)/\¬uW D m)\/∃x,(m,x)∈D/\wr σ (kB D) (c9 m)= .o x)/\∀m,slot (wr σ (kB D)) m=slot σ m:=by
 intro D;induction D with
 |nil=>intro σ;exact⟨λm=> .inl ⟨rfl,λ⟨x,hx⟩=>by cases hx⟩,λm=>rfl⟩
 |cons d D ih=>
  intro σ;obtain⟨n,x⟩:=d;obtain⟨h1,h2⟩:=ih (pS σ (c9 n) (.o x));refine⟨λm=> ?_,λm=> ?_⟩
  ·show(wr (pS σ (c9 n) (.o x)) (kB D) (c9 m)=_/\_)\/∃y,_/\wr (pS σ (c9 n) (.o x)) (kB D) (c9 m)=_;rcases h1 m with ⟨q1,q2⟩|⟨y,q1,q2⟩
   ·rw[qd]at q1;by_cases hm:m=n
    ·subst hm;exact .inr ⟨x,by simp,by rw[q1,bA rfl]⟩
    ·refine .inl ⟨by rw[q1,bJ hm],λ⟨y,hy⟩=> ?_⟩;rcases cB.1 hy with hy|hy
     ·cases hy;exact hm rfl
     ·exact q2 ⟨y,hy⟩
   ·exact .inr ⟨y,c7 _ q1,q2⟩
  ·show slot (wr (pS σ (c9 n) (.o x)) (kB D)) m=_;rw[h2,js]
section
variable {P:cZ} {E:fT} {σ:St} {a:Act} {w:bM} {c:eZ} {o:fu} {nm:aE} {e:tc}
theorem Ji(cg:Ok E σ w c)(dI:fy E σ a w c){o:fu}(hd:∀d,o.dst=ah d->d<a.tmps.size){D:az (aE×Obj)}{s:SV}{v:bn}{w':bM}{c':eZ}
  (hA:jE σ c c')
  (na:∀n x,(n,x)∈D->pU E w' c' n x)
  (pZ:∀n x b,(n,x)∈D->fL c' n x b->(ka (uW D) σ c b\/w.heap.size<=b)/\¬c'.K b)
  (TG:∀n x n' x' b,(n,x)∈D->(n',x')∈D->fL c' n x b->fL c' n' x' b->n=n')
  (JJ:∀n xs,(n,Obj.box xs)∈D->∀a∈xs,∀m∈bR a,σ (c9 m)≠ .j9\/uW D m)
  (hK:∀b,c.K b->c'.K b) (W3:∀b,c'.K b->c.K b\/ka (uW D) σ c b\/w.heap.size<=b) (HE:∀b,c'.K b->b<w'.heap.size)
  (hW:∀b,b<w.heap.size->¬ka (uW D) σ c b->w'.heap[b]? =w.heap[b]?) (gj:w.heap.size<=w'.heap.size) (PZ:w'.os=w.os) (Yo:w'.tape=w.tape) (Yi:w'.output=w.output)
  (yP:jm E w' c' s v) (Bj:∀n∈cO s,σ (c9 n)≠ .j9\/uW D n):
  Ok E (wr σ (kB D++dw o s)) w' c'/\fy E (wr σ (kB D++dw o s)) (a.put o.dst v) w' c'/\oG σ c w (wr σ (kB D++dw o s)) c' w':=by
 rw[QM];obtain⟨d1,d2⟩:=aaw D σ;let σ1:=wr σ (kB D);obtain⟨s1,s2,s3⟩:=sg σ1 o s;have key:∀m,(wr σ1 (dw o s) (c9 m)=σ (c9 m)/\¬uW D m)\/∃x,(m,x)∈D/\wr σ1 (dw o s) (c9 m)= .o x:=λm=>by rw[s3];exact d1 m
 have iz:∀m,(σ (c9 m)≠ .j9\/uW D m)->wr σ1 (dw o s) (c9 m)≠ .j9:=by
  intro m hm;rcases key m with ⟨h1,h2⟩|⟨x,_,h2⟩
  ·rw[h1];exact hm.resolve_right h2
  ·rw[h2];simp
 have get:∀m x,uW D m->wr σ1 (dw o s) (c9 m)= .o x->(m,x)∈D:=by
  intro m x hm hx;rcases key m with ⟨_,h2⟩|⟨y,h1,h2⟩
  ·exact cL hm h2
  ·rw[h2]at hx;cases hx;exact h1
 have hh:=cg.change (σ':=wr σ1 (dw o s)) (w':=w') (c':=c') (uW D) (λm hm=>(key m).elim (λh=>h.1) (λ⟨x,h1,_⟩=>cL ⟨x,h1⟩ hm)) (λm hm=>iz m (.inl hm)) hA hW gj hK W3 HE
  (λm x hm ho=>na m x (get m x hm ho)) (λm x b hm ho hf=>pZ m x b (get m x hm ho) hf) (λm x m' x' b hm xS ho vx hf vt=>TG m x m' x' b (get m x hm ho) (get m' x' xS vx) hf vt)
  (λm xs hm ho y hy n kP=>iz n (JJ m xs (get m _ hm ho) y hy n kP)) PZ Yo Yi
 refine⟨hh.1, ?_,hh.2⟩
 refine dI.change cg hh.2 hA (λm hm=>iz m (.inl hm)) o v (λn kP=>by rw[s1 n kP];exact d2 n) (λd ho=>⟨hd d ho, ?_, ?_⟩)
 ·rw[s2 d ho];exact yP
 ·rw[s2 d ho];intro n kP;exact iz n (Bj n kP)
theorem Ly(cg:Ok E σ w c)(dI:fy E σ a w c){o:fu}(hd:∀d,o.dst=ah d->d<a.tmps.size){D:az (aE×Obj)}{s:SV}{v:bn}{w':bM}{c':eZ}
  (hA:jE σ c c')
  (na:∀n x,(n,x)∈D->pU E w' c' n x)
  (pZ:∀n x b,(n,x)∈D->fL c' n x b->(ka (uW D) σ c b\/w.heap.size<=b)/\¬c'.K b)
  (TG:∀n x n' x' b,(n,x)∈D->(n',x')∈D->fL c' n x b->fL c' n' x' b->n=n')
  (JJ:∀n xs,(n,Obj.box xs)∈D->∀a∈xs,∀m∈bR a,σ (c9 m)≠ .j9\/uW D m)
  (hK:∀b,c.K b->c'.K b) (W3:∀b,c'.K b->c.K b\/ka (uW D) σ c b\/w.heap.size<=b) (HE:∀b,c'.K b->b<w'.heap.size)
  (hW:∀b,b<w.heap.size->¬ka (uW D) σ c b->w'.heap[b]? =w.heap[b]?) (gj:w.heap.size<=w'.heap.size) (PZ:w'.os=w.os) (Yo:w'.tape=w.tape) (Yi:w'.output=w.output)
  (yP:jm E w' c' s v) (Bj:∀n∈cO s,σ (c9 n)≠ .j9\/uW D n)
  (hr:(execOp a.eval o).run P w= .ok (.value v) w'):gZ P E σ a w c o (kB D++dw o s):=by intro K Q hQ;obtain⟨h1,h2,h3⟩:=Ji cg dI hd hA na pZ TG JJ hK W3 HE hW gj PZ Yo Yi yP Bj;exact yJ hr (hQ v w' c' h1 h2 h3 hA.w)
def B0(σ:St)(c:eZ)(m:aA aE)(u:bn):CV->Prop
 | .l e ys=>(m=aj/\ys=[]/\u= .slice aj 0 0)\/∃nm,m=ah nm/\u=l_ (c.P nm)/\σ (c9 nm)= .o (.row e ai ys)
 |x=>Sc u x
def Fq(L:az aE):az (aE×Obj):=L.map λn=>(n, .dead)
theorem CC(L:az aE):oz L=kB (Fq L):=by unfold oz kB Fq;rw[mz];rfl
theorem XX{k:Ck}{x:AV}{cv:CV}{ws:az (aE×eP)}(h:(Jq ai k x).val σ=ah (cv,ws)):
  cv.kd=k/\∃m:aA aE,ws=oz m.toList/\(∀nm,m=ah nm->∃ob,σ (c9 nm)= .o ob)/\∀u,eF E w c x u->B0 σ c m u cv:=by
 have pl:plain [k]=ai->cv.kd=k/\∃m:aA aE,ws=oz m.toList/\(∀nm,m=ah nm->∃ob,σ (c9 nm)= .o ob)/\∀u,eF E w c x u->B0 σ c m u cv:=by
  intro hp;have kd1:cv.kd=k/\ws=[]:=by
   cases k<;>cases x<;>simp[Jq,plain]at h hp<;>first
    |(obtain⟨rfl,rfl⟩:=h;exact⟨rfl,rfl⟩)
    |(split at h<;>simp at h;rename_i hk;subst hk;obtain⟨rfl,rfl⟩:=h;exact⟨rfl,rfl⟩)
  refine⟨kd1.1,aj,kd1.2,λnm h=>(by cases h),λu hu=> ?_⟩
  obtain⟨_,h2,h3,_⟩:=zG hp h hu;cases cv<;>first|exact h2|simp[uI]at h3
 cases k with
 |i=>exact pl rfl
 |b=>exact pl rfl
 |s=>exact pl rfl
 |o=>cases x<;>simp[Jq]at h
 |l e=>
  cases x with
  |nl=>obtain⟨rfl,rfl⟩:=bY (aJ h);exact⟨rfl,aj,rfl,λnm h=>(by cases h),λu hu=> .inl ⟨rfl,rfl,hu⟩⟩
  |sh e' xs=>simp[Jq]at h
  |own n=>
   obtain⟨ob,hg,h⟩:=Rd.bind_some h;have hg:=dz hg;cases ob with
   |row e' uG xs=>obtain⟨h1,h⟩:=cR h;obtain⟨rfl,rfl⟩:=bY (aJ h);simp only[aM]at h1;have:=aW h1.1;subst this;obtain rfl:=h1.2;exact⟨rfl,ah n,rfl,λnm h=>(by cases h;exact⟨_,hg⟩),λu hu=> .inr ⟨n,rfl,hu,hg⟩⟩
   |fW=>simp at h
   |_=>simp at h
  |_=>simp[Jq]at h
theorem Te:∀{ks:az Ck} {xs:az AV} {cs:az CV} {ws:az (aE×eP)} (h:(zH ai ks xs).val σ=ah (cs,ws)),cs.map CV.kd=ks/\xs.length=ks.length/\∃(L:az aE) (M:aE->aA aE),ws=oz L/\
  (∀nm∈L,∃ob,σ (c9 nm)= .o ob)/\(∀j nm,M j=ah nm->nm∈L)/\(L.Nodup->∀i j nm,M i=ah nm->M j=ah nm->i=j)/\
  ∀(vals:dt bn),f_ E w c vals xs->∀(q:aE) (x:CV),cs[q]? =ah x->∃u:bn,vals[q]? =ah u/\B0 σ c (M q) u x:=by
 intro ks;induction ks with
 |nil=>
  intro xs cs ws h;cases xs with
  |nil=>obtain⟨rfl,rfl⟩:=bY (aJ h);exact⟨rfl,rfl,[],λ_=>aj,rfl,λnm h=>(by cases h),λj nm h=>(by cases h),λ_ i j nm h=>(by cases h),λ_ _ q x hq=>by simp at hq⟩
  |cons=>simp[zH]at h
 |cons k ks ih=>
  intro xs cs ws h;cases xs with
  |nil=>simp[zH]at h
  |cons x xs=>
   obtain⟨⟨cv,w1⟩,h1,h⟩:=Rd.bind_some h;obtain⟨⟨cr,w2⟩,h2,h⟩:=Rd.bind_some h;obtain⟨rfl,rfl⟩:=bY (aJ h);obtain⟨e1,m,rfl,e2,e3⟩:=XX (E:=E) (w:=w) (c:=c) h1;obtain⟨i1,i2,L,M,rfl,i4,i5,i6,i7⟩:=ih h2;refine⟨by simp[e1,i1],by simp[i2],m.toList++L,λj=>match j with|0=>m|j+1=>M j,by simp[oz], ?_, ?_, ?_, ?_⟩
   ·intro nm hnm;rcases bf.1 hnm with h|h
    ·exact e2 nm (by simpa using h)
    ·exact i4 nm h
   ·intro j nm hj;cases j with
    |zero=>exact bN _ (by simpa using hj)
    |succ j=>exact bO _ (i5 j nm hj)
   ·intro JL i j nm hi hj;obtain⟨n1,n2,n3⟩:=eM.1 JL;cases i with
    |zero=>
     cases j with
     |zero=>rfl
     |succ j=>exact cL rfl (n3 nm (by simpa using hi) nm (i5 j nm hj))
    |succ i=>
     cases j with
     |zero=>exact cL rfl (n3 nm (by simpa using hj) nm (i5 i nm hi))
     |succ j=>rw[i6 n2 i j nm hi hj]
   ·intro vals hv q y hq;cases q with
    |zero=>cases hq;obtain⟨u,hu,ha⟩:=hv.2 0 x rfl;exact⟨u,hu,e3 u ha⟩
    |succ q=>
     have N1:f_ E w c (vals.extract 1 vals.size) xs:=by
      refine⟨by simp;have:=hv.1;simp at this;omega,λj b hj=> ?_⟩
      obtain⟨u,hu,hb⟩:=hv.2 (j+1) b hj;refine⟨u, ?_,hb⟩
      have:=(dV.1 hu).1;rw[ea,bA (by omega),jd];exact hu
     obtain⟨u,r1,r2⟩:=i7 _ N1 q y hq;refine⟨u, ?_,r2⟩
     rw[ea]at r1;split at r1
     ·rw[jd];exact r1
     ·cases r1
theorem Lk{k:Ck}{x:AV}{cv:CV}{ws:az (aE×eP)}(cg:Ok E σ w c)(h:(Jq ak k x).val σ=ah (cv,ws)):cv.kd=k/\ws=[]/\∀u,eF E w c x u->da E w c.K u cv:=by
 have pl:plain [k]=ai->cv.kd=k/\ws=[]/\∀u,eF E w c x u->da E w c.K u cv:=by
  intro hp;have kd1:cv.kd=k/\ws=[]:=by
   cases k<;>cases x<;>simp[Jq,plain]at h hp<;>first
    |(obtain⟨rfl,rfl⟩:=h;exact⟨rfl,rfl⟩)
    |(split at h<;>simp at h;rename_i hk;subst hk;obtain⟨rfl,rfl⟩:=h;exact⟨rfl,rfl⟩)
  refine⟨kd1.1,kd1.2,λu hu=> ?_⟩
  obtain⟨_,h2,h3,_⟩:=zG hp h hu;exact kV h3 h2
 cases k with
 |i=>exact pl rfl
 |b=>exact pl rfl
 |s=>exact pl rfl
 |o=>cases x<;>simp[Jq]at h
 |l e=>
  cases x with
  |nl=>obtain⟨rfl,rfl⟩:=bY (aJ h);exact⟨rfl,rfl,λu hu=>by rw[show u=_ from hu];exact .nl _ _ _⟩
  |sh e' xs=>obtain⟨h1,h⟩:=cR h;obtain⟨rfl,rfl⟩:=bY (aJ h);simp only[aM]at h1;have:=aW h1.1;subst this;exact⟨rfl,rfl,λu hu=>hu⟩
  |own n=>
   obtain⟨ob,hg,h⟩:=Rd.bind_some h;have hg:=dz hg;cases ob with
   |row e' uG xs=>obtain⟨h1,h⟩:=cR h;simp at h
   |fW e' xs=>
    obtain⟨h1,h⟩:=cR h;obtain⟨rfl,rfl⟩:=bY (aJ h);simp only[aM]at h1;have:=aW h1.1;subst this;refine⟨rfl,rfl,λu hu=> ?_⟩
    have hu:u=l_ (c.P n):=hu;rw[hu];exact(cg.obj n _ hg).1
   |_=>simp at h
  |_=>simp[Jq]at h
theorem Jr(cg:Ok E σ w c):∀{ks:az Ck} {xs:az AV} {cs:az CV} {ws:az (aE×eP)} (h:(zH ak ks xs).val σ=ah (cs,ws)),cs.map CV.kd=ks/\xs.length=ks.length/\ws=[]/\
  ∀(vals:dt bn),f_ E w c vals xs->∀(q:aE) (x:CV),cs[q]? =ah x->∃u:bn,vals[q]? =ah u/\da E w c.K u x:=by
 intro ks;induction ks with
 |nil=>
  intro xs cs ws h;cases xs with
  |nil=>obtain⟨rfl,rfl⟩:=bY (aJ h);exact⟨rfl,rfl,rfl,λ_ _ q x hq=>by simp at hq⟩
  |cons=>simp[zH]at h
 |cons k ks ih=>
  intro xs cs ws h;cases xs with
  |nil=>simp[zH]at h
  |cons x xs=>
   obtain⟨⟨cv,w1⟩,h1,h⟩:=Rd.bind_some h;obtain⟨⟨cr,w2⟩,h2,h⟩:=Rd.bind_some h;obtain⟨rfl,rfl⟩:=bY (aJ h);obtain⟨e1,e2,e3⟩:=Lk cg h1;obtain⟨i1,i2,i3,i7⟩:=ih h2;refine⟨by simp[e1,i1],by simp[i2],by rw[e2,i3];rfl,λvals hv q y hq=> ?_⟩
   cases q with
   |zero=>cases hq;obtain⟨u,hu,ha⟩:=hv.2 0 x rfl;exact⟨u,hu,e3 u ha⟩
   |succ q=>
    have N1:f_ E w c (vals.extract 1 vals.size) xs:=by
     refine⟨by simp;have:=hv.1;simp at this;omega,λj b hj=> ?_⟩
     obtain⟨u,hu,hb⟩:=hv.2 (j+1) b hj;refine⟨u, ?_,hb⟩
     have:=(dV.1 hu).1;rw[ea,bA (by omega),jd];exact hu
    obtain⟨u,r1,r2⟩:=i7 _ N1 q y hq;refine⟨u, ?_,r2⟩
    rw[ea]at r1;split at r1
    ·rw[jd];exact r1
    ·cases r1
end
end Go.FG

namespace Go.FG
section
variable {P:cZ} {E:fT} {σ:St} {a:Act} {w:bM} {c:eZ} {o:fu} {nm:aE} {e:tc}
structure Inv (E:fT) (σ:St) (w:bM) (c:eZ) (ex:aU) (ks:az Ck) (vals:dt bn) (z:aQ) (N:aE->aE->aA aE) (S:az aE):Prop where
 size:vals.size=z.length*ks.length
 sh:∀y∈z,y.map CV.kd=ks
 inS:∀i j nm,N i j=ah nm->nm∈S
 inj:∀i j i' j' nm,N i j=ah nm->N i' j'=ah nm->i=i'/\j=j'
 cell:∀(i:aE) (y:az CV) (j:aE) (x:CV),z[i]? =ah y->y[j]? =ah x->∃u:bn,vals[i*ks.length+j]? =ah u/\(if ex=ai then B0 σ c (N i j) u x else da E w c.K u x)
theorem Inv.set{ex:aU}{ks:az Ck}{vals:dt bn}{z:aQ}{N:aE->aE->aA aE}{S:az aE}(h:Inv E σ w c ex ks vals z N S){i0:aE}(hi:i0<z.length){cs:az CV}{vs:dt bn}(hk:cs.map CV.kd=ks)(TK:vs.size=ks.length)
  {M:aE->aA aE} {L:az aE} (hM:∀j nm,M j=ah nm->nm∈L) (hMi:∀i j nm,M i=ah nm->M j=ah nm->i=j) (hd:∀nm∈L,nm∉S)
  (hc:∀(q:aE) (x:CV),cs[q]? =ah x->∃u:bn,vs[q]? =ah u/\(if ex=ai then B0 σ c (M q) u x else da E w c.K u x)):
  Inv E σ w c ex ks (ed vals (i0*ks.length) vs.toList) (z.set i0 cs) (λi j=>if i=i0 then M j else N i j) (S++L):=by
 have h1:(i0+1)*ks.length<=z.length*ks.length:=b_ _ hi;rw[dn]at h1;have hb:i0*ks.length+vs.toList.length<=vals.size:=by rw[h.size,show vs.toList.length=ks.length from TK];omega
 refine⟨by rw[e8 hb,cD];exact h.size, ?_, ?_, ?_, ?_⟩
 ·intro y hy;rcases jI hy with hy|hy
  ·exact h.sh y hy
  ·rw[hy];exact hk
 ·intro i j nm hn;replace hn:(if i=i0 then M j else N i j)=ah nm:=hn;split at hn
  ·exact bO _ (hM j nm hn)
  ·exact bN _ (h.inS i j nm hn)
 ·intro i j i' j' nm hn kP;replace hn:(if i=i0 then M j else N i j)=ah nm:=hn;replace kP:(if i'=i0 then M j' else N i' j')=ah nm:=kP;split at hn
  ·rename_i e1;split at kP
   ·rename_i e2;exact⟨e1.trans e2.symm,hMi j j' nm hn kP⟩
   ·exact cL (h.inS i' j' nm kP) (hd nm (hM j nm hn))
  ·split at kP
   ·exact cL (h.inS i j nm hn) (hd nm (hM j' nm kP))
   ·exact h.inj i j i' j' nm hn kP
 ·intro i y j x hy hx;rw[QR]at hy;rw[gu hb,show vs.toList.length=ks.length from TK];by_cases JH:i0=i
  ·subst JH;rw[bA rfl,bA hi]at hy;cases hy;have hj:j<ks.length:=by rw[<-hk,bV];exact(aT.1 hx).1
   obtain⟨u,hu,hr⟩:=hc j x hx;refine⟨u, ?_,by simpa using hr⟩
   rw[bA (by omega),cX,<-hu];congr 1;omega
  ·rw[bJ JH]at hy;obtain⟨u,hu,hr⟩:=h.cell i y j x hy hx;have hj:j<ks.length:=by rw[<-h.sh y (aR hy),bV];exact(aT.1 hx).1
   refine⟨u, ?_,by rw[show(if i=i0 then M j else N i j)=N i j from bJ (λe=>JH e.symm)];exact hr⟩
   rw[bJ ?_];exact hu;rcases QU JH with jt|hgt
   ·have:(i0+1)*ks.length<=i*ks.length:=b_ _ jt;rw[dn]at this;omega
   ·have:(i+1)*ks.length<=i0*ks.length:=b_ _ hgt;rw[dn]at this;omega
theorem Py(cg:Ok E σ w c)(dI:fy E σ a w c){ex:aU}{ks:az Ck}(ly:0<ks.length):∀(ps:az (aE×dy)) (z z':aQ) (ws:az (aE×eP)),(Lj ex ks ps z).val σ=ah (z',ws)->
  z'.length=z.length/\∃L,ws=oz L/\(∀nm∈L,∃ob,σ (c9 nm)= .o ob)/\∀vals N S,(S++L).Nodup->Inv E σ w c ex ks vals z N S->
   ∃je N',pK (λi=>ah (i*ks.length,ks.length)) vals (ps.map λ(i,x)=>(i,a.eval x))=ah je/\Inv E σ w c ex ks je z' N' (S++L):=by
 intro ps;induction ps with
 |nil=>intro z z' ws h;obtain⟨rfl,rfl⟩:=bY (aJ h);exact⟨rfl,[],rfl,λnm h=>(by cases h),λvals N S _ hi=>⟨vals,N,rfl,by rw[dj];exact hi⟩⟩
 |cons p r ih=>
  obtain⟨i0,x⟩:=p;intro z z' ws h;obtain⟨v,h1,h⟩:=Rd.bind_some h;obtain⟨P0,hkv⟩:=mD dI h1;cases v with
  |v g ys=>
   obtain⟨h2,h⟩:=cR h;have h2:=cM h2;obtain⟨⟨cs,w1⟩,h3,h⟩:=Rd.bind_some h;obtain⟨⟨z1,w2⟩,h4,h⟩:=Rd.bind_some h;obtain⟨rfl,rfl⟩:=bY (aJ h);have n_:=qo.cells P0
   have Jq:cs.map CV.kd=ks/\ys.length=ks.length/\∃(L:az aE) (M:aE->aA aE),w1=oz L/\(∀nm∈L,∃ob,σ (c9 nm)= .o ob)/\(∀j nm,M j=ah nm->nm∈L)/\(L.Nodup->∀i j nm,M i=ah nm->M j=ah nm->i=j)/\
     ∀(q:aE) (x:CV),cs[q]? =ah x->∃u:bn,(a.eval ‹dy›).cells[q]? =ah u/\(if ex=ai then B0 σ c (M q) u x else da E w c.K u x):=by
    cases ex with
    |true=>obtain⟨q1,q2,L,M,q3,q4,q5,q6,q7⟩:=Te (E:=E) (w:=w) (c:=c) h3;exact⟨q1,q2,L,M,q3,q4,q5,q6,λq x hq=>by simpa using q7 _ n_ q x hq⟩
    |false=>obtain⟨q1,q2,q3,q4⟩:=Jr cg h3;exact⟨q1,q2,[],λ_=>aj,q3,λnm h=>(by cases h),λj nm h=>(by cases h),λ_ i j nm h=>(by cases h),λq x hq=>by simpa using q4 _ n_ q x hq⟩
   obtain⟨q1,q2,L,M,rfl,q4,q5,q6,q7⟩:=Jq;obtain⟨i1,L2,rfl,i3,i4⟩:=ih _ _ _ h4;rw[cD]at i1;refine⟨i1,L++L2,by simp[oz],λnm hn=>(bf.1 hn).elim (q4 nm) (i3 nm),λvals N S JL hinv=> ?_⟩
   have akd:((S++L)++L2).Nodup:=by rw[cy];exact JL
   obtain⟨n1,n2,n3⟩:=eM.1 akd;obtain⟨m1,m2,m3⟩:=eM.1 n1;have TK:(a.eval x).cells.size=ks.length:=by rw[n_.1,q2]
   have aj7:=hinv.set (i0:=i0) (by omega) q1 TK q5 (q6 m2) (λnm hn hs=>m3 nm hs nm hn rfl) q7;obtain⟨je,N',f1,f2⟩:=i4 _ _ _ akd aj7;refine⟨je,N', ?_,by rw[<-cy];exact f2⟩
   have h1:(i0+1)*ks.length<=z.length*ks.length:=b_ _ h2;rw[dn,<-hinv.size]at h1;simp only[fw,pK];rw[bJ (by simp[TK];omega)];have:=Fx (off:=i0*ks.length) (vs:=(a.eval x).cells) (cells:=vals) (by omega);rw[<-f1];exact lV (λq=>pK (λi=>ah (i*ks.length,ks.length)) q _) this
  |kq=>simp at h
  |un=>simp at h
theorem Dp{t el n:aE}{inf:KU}{z:bn}{ks:az Ck}{ps:dt (aE×bn)}{cells:dt bn}(hu:P.underlying t=ah (.slice el))(hi:P.info? el=ah inf)(gj:inf.size=ks.length)(hz:inf.zero=ah z)(hzc:z.cells=(ks.map iK).toArray)
  (h24:n*ks.length<=16777216) (hf:pK (λi=>ah (i*ks.length,ks.length)) (madeCells (ks.map iK).toArray (n*ks.length)) ps.toList=ah cells):
  (Al t n ps).run P w= .ok (.slice (ah (ad w.heap.size 0)) n n) (w.alloc (.cells cells el)):=by
 have as7:¬(n*ks.length>2^24):=by omega
 by_cases h0:n*ks.length=0
 ·have e0:(Array.range (n*ks.length)).map (λi=>(#[]:dt bn)[i%(#[]:dt bn).size]!)=madeCells (ks.map iK).toArray (n*ks.length):=by rw[h0];simp[madeCells,Array.range_zero']
  simp only[Al,cj,run_underlying hu,bI,sizeOf,typeInfo,program,nB,hi,gj,cT,h0,if_true,nr];rw[h0]at e0 hf;rw[e0,hf];simp only[newRow,newObj,cj,nB,bI,cT];rfl
 ·have e0:(Array.range (n*ks.length)).map (λi=>z.cells[i%z.cells.size]!)=madeCells (ks.map iK).toArray (n*ks.length):=by rw[hzc];rfl
  simp only[Al,cj,run_underlying hu,bI,sizeOf,typeInfo,program,nB,hi,gj,as7,if_false,cT,h0,zeroValue,hz,nr];rw[e0,hf];simp only[newRow,newObj,cj,nB,bI,cT];rfl
theorem qQ:∀{l:az aE},tU l=ai->l.Nodup
 |[],_=> .nil
 |n::r,h=>by
  simp only[tU,aM,dp]at h;refine kM.2 ⟨λhm=> ?_,qQ h.2⟩;have:mS n r=true:=by
   have:=h.1;clear h;induction r with
   |nil=>cases hm
   |cons m r ih=>
    rcases cB.1 hm with rfl|hm
    ·simp[mS]
    ·simp only[mS,iH]at this⊢;rw[ih hm this.2];simp
  rw[this]at h;cases h.1
theorem rX{α β:Type}{f:α->β}:∀{l:az α},(l.map f).Nodup->l.Nodup
 |[],_=> .nil
 |x::l,h=>by
  rw[fw,kM]at h;exact kM.2 ⟨λhm=>h.1 (cU.2 ⟨x,hm,rfl⟩),rX h.2⟩
theorem X7{ks:az Ck}(hf:flat E ks=ai){e:aE}(hm:Ck.l e∈ks):∃t,E.ty e=ah t/\plain t.ks=true:=by
 have h:=bu.1 hf _ hm;replace h:(match E.ty e with|some ti=>plain ti.ks|none=>ak)=true:=h;cases ht:E.ty e with
 |none=>rw[ht]at h;cases h
 |some t=>rw[ht]at h;exact⟨t,rfl,h⟩
theorem Qv(cg:Ok E σ w c){n e:aE}{ex:aU}{xs:aQ}(hg:σ (c9 n)= .o (.row e ex xs)){t:TI}(ht:E.ty e=ah t)(hp:plain t.ks=ai):
  (c.P n).sz=t.ks.length/\(∀y∈xs,y.map CV.kd=t.ks)/\jl w (c.P n) xs (λ_ _ u x=>Sc u x):=by
 obtain⟨⟨t2,q1,q2,q3⟩,q4,_⟩:=cg.obj n _ hg;obtain rfl:t=t2:=aJ (ht.symm.trans q1);refine⟨q2,q3,q4.frame (λ_=>rfl) (λi j y x u hi hj hr=> ?_)⟩
 have hl:=iv hp (q3 y (aR hi)) hj;split at hr
 ·exact uS hr hl
 ·exact pC hr hl
theorem S6(cg:Ok E σ w c){ks:az Ck}(hf:flat E ks=ai){m:aA aE}{G:aE->aE->Pl}{i j:aE}(hG:G i j=match m with|some n=>c.P n|none=>L3 E ks i j){u:bn}{x:CV}(hx:ks[j]? =ah x.kd){w':bM}(hw:∀b,b<w.heap.size->(∃n,m=ah n/\b=(c.P n).blk)->w'.heap[b]? =w.heap[b]?)(h:B0 σ c m u x):XC E w' G i j u x:=by
 cases x with
 |l e ys=>
  obtain⟨t,ht,hp⟩:=X7 hf (aR hx);rcases h with ⟨rfl,rfl,rfl⟩|⟨n,rfl,rfl,hg⟩
  ·refine⟨by rw[hG];rfl,t,ht,hp, ?_,λy hy=>(by cases hy),⟨by rw[hG];rfl,λ_=>⟨rfl,by rw[hG];rfl⟩,λhn=>by rw[hG]at hn;cases hn⟩⟩
   rw[hG];show(match ks[j]? with|some (.l e)=>(match E.ty e with|some t=>t.ks.length|none=>0)|_=>0)=_;rw[hx];simp only[CV.kd,ht]
  ·obtain⟨q1,q2,q3⟩:=Qv cg hg ht hp;refine⟨by rw[hG],t,ht,hp,by rw[hG];exact q1,q2, ?_⟩
   rw[hG];refine q3.frame (λhn=>hw _ (wS.lt cg ⟨n,_,hg, .inl ⟨hn,rfl⟩⟩) ⟨n,rfl,rfl⟩) (λ_ _ _ _ _ _ _ h=>h)
 |i=>exact h
 |b=>exact h
 |s=>exact h
theorem EA(hE:eA P E)(cg:Ok E σ w c)(dI:fy E σ a w c)(hd:∀d,o.dst=ah d->d<a.tmps.size){t n:aE}{ps:dt (aE×dy)}(ho:o.op= .buildSlice t n ps)(h:(mo E nm o).val σ=ah e)(hc:e.cond=ai):gZ P E σ a w c o e.ws:=by
 simp only[mo,ho]at h;obtain⟨ti,h1,h⟩:=Rd.bind_some h;have h1:=dX h1;split at h
 ·rename_i el uH Bj;obtain⟨te,h2,h⟩:=Rd.bind_some h;have h2:=dX h2;obtain⟨zN,h⟩:=cR h;obtain⟨ex0,_,h⟩:=Rd.bind_some h;obtain⟨⟨xs,ws⟩,h3,h⟩:=Rd.bind_some h;obtain⟨u,h4,h⟩:=Rd.bind_some h;obtain⟨hf,jt⟩:=kO h4;obtain rfl:=aJ h;simp only[aM]at hc;obtain⟨h24,JL⟩:=hc;have h24:=cM h24;have hu:=pq hE h1 uH Bj;obtain⟨inf,hi,gj,_,ly,hz⟩:=hE.info el te h2;obtain⟨z,KH,Eu,_⟩:=hz zN;have PR:(ex0&&flat E te.ks)=ai->flat E te.ks=true:=λh=>by simp only[aM]at h;exact h.2
  generalize (ex0&&flat E te.ks)=ex at h3 PR⊢;obtain⟨hlen,L,rfl,hL,TF⟩:=Py (c:=c) cg dI ly ps.toList _ _ _ h3;have JL:L.Nodup:=by have:=qQ JL;unfold oz at this;rw[mz]at this;exact rX this
  obtain⟨vals,N,ajZ,hinv⟩:=TF (madeCells (te.ks.map iK).toArray (n*te.ks.length)) (λ_ _=>aj) [] (by simpa using JL)
   ⟨by rw[size_madeCells];simp[aP],yL zN n,λi j nm h=>(by cases h),λi j i' j' nm h=>(by cases h),λi y j x hy hx=>by
    obtain⟨gC,k,hk,rfl⟩:=uT hy hx;refine⟨iK k,ma gC hk, ?_⟩
    have hko:=bu.1 zN k (aR hk);split
    ·cases k with
     |l e=>exact .inl ⟨rfl,rfl,rfl⟩
     |o=>cases hko
     |s=>exact⟨rfl,bD _⟩
     |_=>exact⟨rfl,trivial⟩
    ·exact MI hko⟩
  rw[gF]at hinv;have hr:=Dp (P:=P) (w:=w) (n:=n) (ps:=ps.map λ(i,x)=>(i,a.eval x)) hu hi gj KH Eu h24 (by rw[AM];exact ajZ);have LP:xs.length=n:=by rw[hlen];simp[aP]
  let g:aE->aE->Pl:=λi j=>match N i j with|some m=>c.P m|none=>L3 E te.ks i j
  let c':eZ:=⟨λm=>if m=nm then⟨ak,w.heap.size,0,n,n,te.ks.length⟩else c.P m,λm=>if m=nm then g else c.G m,c.K⟩
  have hP:c'.P nm=⟨ak,w.heap.size,0,n,n,te.ks.length⟩:=bA rfl;have hG:c'.G nm=g:=bA rfl;have hA:jE σ c c':=λm hm=>by
   have:m≠nm:=by rintro rfl;rcases hm with h|h;exact h hf;omega
   exact⟨bJ this,bJ this⟩
  have gN:∀i j,(g i j).nil=ak->∃m ob,N i j=ah m/\g i j=c.P m/\m∈L/\σ (c9 m)= .o ob:=by
   intro i j hn;cases hm:N i j with
   |none=>simp only[g,hm]at hn;cases hn
   |some m=>obtain⟨ob,na⟩:=hL m (hinv.inS i j m hm);exact⟨m,ob,rfl,by simp only[g,hm],hinv.inS i j m hm,na⟩
  have inn:∀i j,ex=ai->gm xs i j->(g i j).nil=ak->∃m el2 ys,N i j=ah m/\g i j=c.P m/\m∈L/\σ (c9 m)= .o (.row el2 ai ys)/\(c.P m).nil=false:=by
   rintro i j hex ⟨y,x,hy,hx,hl⟩ hn;obtain⟨m,ob,q1,q2,q3,q4⟩:=gN i j hn;obtain⟨u,_,hr⟩:=hinv.cell i y j x hy hx;rw[bA hex,q1]at hr;cases x with
   |l e2 ys=>
    rcases hr with ⟨h,_⟩|⟨m',h,_,hg⟩
    ·cases h
    ·cases h;exact⟨m,e2,ys,q1,q2,q3,hg,by rw[<-q2];exact hn⟩
   |i=>simp[uI]at hl
   |b=>simp[uI]at hl
   |s=>simp[uI]at hl
  have TM:∀b,b<w.heap.size->(w.alloc (.cells vals el)).heap[b]? =w.heap[b]? :=λb hb=>heap_alloc_old w _ b hb;have mem:∀m x,(m,x)∈Fq L++[(nm,Obj.row el ex xs)]->(m∈L/\x= .dead)\/(m=nm/\x= .row el ex xs):=by
   intro m x hm;rcases bf.1 hm with hm|hm
   ·unfold Fq at hm;obtain⟨q,hq,h⟩:=cU.1 hm;cases h;exact .inl ⟨hq,rfl⟩
   ·rw[a_]at hm;cases hm;exact .inr ⟨rfl,rfl⟩
  have hws:oz L++(c9 nm,eP.o (.row el ex xs))::dw o (.v ak [.own nm])=kB (Fq L++[(nm,Obj.row el ex xs)])++dw o (.v ak [.own nm]):=by rw[CC];unfold kB;simp
  show gZ P E σ a w c o (oz L++(c9 nm,eP.o (.row el ex xs))::dw o (.v ak [.own nm]));rw[hws];refine Ly cg dI hd (c':=c') (w':=w.alloc (.cells vals el)) (v:= .slice (ah (ad w.heap.size 0)) n n) hA ?_ ?_ ?_ ?_ (λ_ h=>h) (λ_ h=> .inl h) (λb hb=>jy (cg.lt b hb) (by simp)) (λb hb _=>TM b hb) (by simp) rfl rfl rfl ?_ ?_ ?_
  ·intro m x hm;rcases mem m x hm with ⟨_,rfl⟩|⟨rfl,rfl⟩
   ·trivial
   ·refine⟨⟨te,h2,by rw[hP],hinv.sh⟩, ?_,λhex=> ?_⟩
    ·rw[hP,hG];refine⟨LP.symm,λhn=>(by cases hn),λ_=>⟨vals,n8.alloc w _ el,cG _, ?_, ?_,λi y j x hy hx=> ?_⟩⟩
     ·show n<=2^63-1;have:n*1<=n*te.ks.length:=Nat.mul_le_mul_left _ ly;omega
     ·rw[hinv.size,LP];simp
     ·obtain⟨u,sF,Ep⟩:=hinv.cell i y j x hy hx;refine⟨u,by simpa using sF, ?_⟩
      split at Ep
      ·rename_i hex;rw[bA hex];refine S6 cg (PR hex) rfl ?_ (λb hb _=>TM b hb) Ep;rw[<-hinv.sh y (aR hy),bL,hx];rfl
      ·rename_i hex;rw[bJ hex];exact Ep.frame (λb hb=>TM b (cg.lt b hb)) (λ_ h=>h)
    ·rw[hP,hG];refine⟨λi j hh hn _=> ?_,λi j i' j' hh Bi hn kP hbk=> ?_⟩
     ·obtain⟨m',e2,ys,_,q2,_,q4,q5⟩:=inn i j hex hh hn;have:(c.P m').blk<w.heap.size:=wS.lt cg ⟨m',_,q4, .inl ⟨q5,rfl⟩⟩;rw[q2];show(c.P m').blk≠w.heap.size;omega
     ·obtain⟨m1,e1,y1,p1,p2,_,p4,p5⟩:=inn i j hex hh hn;obtain⟨m2,e2,y2,r1,r2,_,r4,r5⟩:=inn i' j' hex Bi kP;rw[p2,r2]at hbk;have:=cg.sep m1 _ m2 _ _ p4 r4 (.inl ⟨p5,rfl⟩) (.inl ⟨r5,hbk⟩);subst this;exact hinv.inj i j i' j' m1 p1 r1
  ·intro m x b hm pZ;rcases mem m x hm with ⟨_,rfl⟩|⟨rfl,rfl⟩
   ·exact pZ.elim
   ·rcases pZ with ⟨_,rfl⟩|⟨hex,i,j,hh,hn,rfl⟩
    ·rw[hP];exact⟨.inr (cG _),λhk=>by have:=cg.lt _ hk;exact cL this (bk _)⟩
    ·rw[hG]at hn⊢;obtain⟨m',e2,ys,_,q2,q3,q4,q5⟩:=inn i j hex hh hn;rw[q2];refine⟨.inl ⟨m',_,⟨.dead,bN _ (cU.2 ⟨m',q3,rfl⟩)⟩,q4, .inl ⟨q5,rfl⟩⟩,cg.kk m' _ _ q4 (.inl ⟨q5,rfl⟩)⟩
  ·intro m x m' x' b hm xS pZ Ty;rcases mem m x hm with ⟨_,rfl⟩|⟨rfl,rfl⟩
   ·exact pZ.elim
   ·rcases mem m' x' xS with ⟨_,rfl⟩|⟨rfl,rfl⟩
    ·exact Ty.elim
    ·rfl
  ·intro m zs hm;rcases mem m _ hm with ⟨_,h⟩|⟨_,h⟩<;>cases h
  ·show _=l_ (c'.P nm);rw[hP];rfl
  ·intro m hm;have:m=nm:=by simpa [cO,bR]using hm
   subst this;exact .inr ⟨_,bO _ (a_.2 rfl)⟩
  ·unfold execOp;rw[ho];exact i_ hr
 ·simp at h
end
end Go.FG

namespace Go.FG
section
variable {P:cZ}
def mj(elem:TypeId)(size:aE)(base:aA Addr)(sLen sCap:aE)(s x:bn)(aP:aU)(n:aE)(Ja:Sem (dt bn)):Sem bn:=
 if sLen+n<=sCap then do
  let new<-Ja
  if let ah a:=base then storeCells (a.add (sLen*size)) new.toList
  pure (.slice base (sLen+n) sCap)
 else do
  if((sLen+n:aE):ax)>ao.max/\(aP\/(<-typeInfo elem).bytes=0)then runtimePanic (.error "growslice: len out of range")
  if Iw (sLen+n) sCap*(<-typeInfo elem).bytes>2^48 then(if aP then runtimePanic (.error "growslice: len out of range")else do
   if !(<-Builtin.mayShare size sLen n base x)then mark .noRoom
   unsupported (.resourceLimit "append: a slice or a string whose bytes no memory bears"))
  let L0<-choose (.appendCap (sLen+n) sCap elem)
  askRoom (L0*(<-typeInfo elem).bytes)
  let old<-fm size sLen s
  let new<-Ja
  let rest:=fO (<-zeroValue elem).cells (L0-(sLen+n))
  pure (.slice (ah (<-newRow elem (old++new++rest))) (sLen+n) L0)
theorem z7{w:bM}{t u ty el:aE}{inf:KU}(hu:P.underlying t=ah (.slice el))(hi:P.info? el=ah inf)(hd:(∃e',P.underlying u=ah (.slice e'))\/P.underlying u=ah .string)
  {base:aA Addr} {sLen sCap m:aE} {x:bn} (hl:(pJ x).run P w= .ok m w):
  (ix #[t,u] ty #[.slice base sLen sCap,x]).run P w=(mj el inf.size base sLen sCap (.slice base sLen sCap) x ak m (fm inf.size m x)).run P w:=by
 have hs:(sizeOf el).run P w= .ok inf.size w:=by simp[sizeOf,typeInfo,hi]
 rcases hd with ⟨e',hd⟩|hd<;>
  (simp only[ix,ig,sL,dM,cj,run_underlying hu,run_underlying hd,bI,hs,cT,hl,dx,if_false,bP,if_true,false_or,nr]
   unfold mj
   simp only[nr,cj,dx,if_false,false_or,cT]
   try rfl)
theorem Dl{w:bM}{t u ty el:aE}{inf:KU}(hu:P.underlying t=ah (.slice el))(hi:P.info? el=ah inf){k:nA}(hd:P.underlying u=ah (.int k))
  {base:aA Addr} {sLen sCap m:aE} {x:bn} {k':nA} (hx:x= .int k' (m:ax)) (h1:m<=9223372036854775807) (h2:m*inf.bytes<=140737488355328):
  (ix #[t,u] ty #[.slice base sLen sCap,x]).run P w=(mj el inf.size base sLen sCap (.slice base sLen sCap) x ai m (if m*inf.size=0 then pure #[]else do pure (fO (<-zeroValue el).cells m))).run P w:=by
 have hs:(sizeOf el).run P w= .ok inf.size w:=by simp[sizeOf,typeInfo,hi]
 have ht:∀W,(typeInfo el).run P W= .ok inf W:=λW=>by simp[typeInfo,hi]
 have hw:ao.wrap (m:ax)=m:=by rw[qh];omega
 have c1:¬((m:ax)<0):=by omega
 have c2:¬((m:ax)*(inf.bytes:ax)>2^48):=by
  have a2:((m*inf.bytes:aE):ax)<=140737488355328:=by generalize m*inf.bytes=q at h2;omega
  rw[Xu]at a2;generalize (m:ax)*(inf.bytes:ax)=q at a2;have:(2:ax)^48=281474976710656:=by decide
  omega
 subst hx;have ha:(asInt (.int k' (m:ax))).run P w= .ok (m:ax) w:=by simp[asInt,asIntOf]
 simp only[ix,ig,sL,dM,cj,run_underlying hu,run_underlying hd,bI,hs,ht,ha,hw,c1,c2,cT,if_false,aY,dx,if_true,nr,dK];unfold mj;simp only[nr,cj,if_true,true_or,and_true,cT,ht,bI];try rfl
theorem EG{w w':bM}{el size sLen sCap m:aE}{a:Addr}{s x:bn}{zs:aU}{app:Sem (dt bn)}{news:az bn}(ha:app.run P w= .ok news.toArray w)(h:sLen+m<=sCap)(LM:(storeCells (a.add (sLen*size)) news).run P w= .ok () w'):
  (mj el size (ah a) sLen sCap s x zs m app).run P w= .ok (.slice (ah a) (sLen+m) sCap) w':=by unfold mj;rw[bA h];simp only[cj,ha,bI,LM,cT]
theorem EF{w:bM}{el size sCap:aE}{s x:bn}{zs:aU}{app:Sem (dt bn)}{news:az bn}(ha:app.run P w= .ok news.toArray w):
  (mj el size aj 0 sCap s x zs 0 app).run P w= .ok (.slice aj 0 sCap) w:=by unfold mj;rw[bA (bD _)];simp only[cj,ha,bI,cT]
theorem EE{w:bM}{el size sLen sCap m:aE}{base:aA Addr}{s x:bn}{zs:aU}{app:Sem (dt bn)}{pE news:az bn}{inf:KU}{z:bn}(hi:P.info? el=ah inf)(hz:inf.zero=ah z)
  (h:¬sLen+m<=sCap) (h63:sLen+m<=9223372036854775807) (h48:(sLen+m)*inf.bytes<=140737488355328)
  (ho:(fm size sLen s).run P w.drew= .ok pE.toArray w.drew) (ha:app.run P w.drew= .ok news.toArray w.drew):
  (mj el size base sLen sCap s x zs m app).run P w= .ok (.slice (ah (ad w.heap.size 0)) (sLen+m) (grownCap w (sLen+m) sCap el))
   (w.drew.alloc (.cells (pE.toArray++news.toArray++fO z.cells (grownCap w (sLen+m) sCap el-(sLen+m))) el)):=by
 have ht:∀W,(typeInfo el).run P W= .ok inf W:=λW=>by simp[typeInfo,hi]
 have hzv:∀W,(zeroValue el).run P W= .ok z W:=λW=>by simp[zeroValue,typeInfo,hi,hz]
 have c1:¬(((sLen+m:aE):ax)>ao.max/\(zs=ai\/inf.bytes=0)):=by
  have:ao.max=9223372036854775807:=by decide
  rintro ⟨h,_⟩;omega
 have c2:¬(Iw (sLen+m) sCap*inf.bytes>2^48):=by
  have:=growslice_fits (need:=sLen+m) (old:=sCap) (bytes:=inf.bytes) (by omega) h48;have e:2^48=281474976710656:=by decide
  omega
 have W5:(choose (.appendCap (sLen+m) sCap el)).run P w= .ok (grownCap w (sLen+m) sCap el) w.drew:=by rw[run_choose_drew];rfl
 have atb:∀n W,(askRoom n).run P W= .ok () W:=λn W=>by simp only[askRoom];split<;>simp
 have zM:∀cs,(newRow el cs).run P w.drew= .ok (ad w.heap.size 0) (w.drew.alloc (.cells cs el)):=λcs=>by simp only[newRow,newObj,cj,nB,bI,cT];rfl
 unfold mj;rw[bJ h];simp only[cj,ht,bI,c1,c2,if_false,W5,atb,ho,ha,hzv,zM,cT,nr]
structure App (P:cZ) (w:bM) (u:aE) (x:bn) (z:dt bn) (sz m:aE) (news:az bn):Prop where
 h:(((∃e',P.underlying u=ah (.slice e'))\/P.underlying u=ah .string)/\(pJ x).run P w= .ok m w/\(fm sz m x).run P w= .ok news.toArray w/\(fm sz m x).run P w.drew= .ok news.toArray w.drew)\/
  ((∃k,P.underlying u=ah (.int k))/\(∃k',x= .int k' (m:ax))/\news=(fO z m).toList)
 len:news.length=m*sz
 one:∀v∈news,v.oneCell'=ai
structure aeP (w w':bM) (p p':Pl) (m:aE) (news:az bn):Prop where
 n:p'.n=p.n+m
 sz:p'.sz=p.sz
 nil:p'.nil=ai->p'.cap=0/\p.n=0/\m=0
 mem:p'.nil=ak->∃je,n8 w' p'.blk je/\p'.n<=p'.cap/\p'.cap<=maxLen/\p'.off+p'.cap*p'.sz<=je.size/\
  (∀k u,k<p.n*p.sz->w.cell? (ad p.blk (p.off+k))=ah u->je[p'.off+k]? =ah u)/\(∀k,k<m*p.sz->je[p'.off+p.n*p.sz+k]? =news[k]?)
 blk:p'.nil=ak->(p.nil=ak/\p'.blk=p.blk)\/p'.blk=w.heap.size
 old:∀b,b<w.heap.size->(p'.nil=ak->b≠p'.blk)->w'.heap[b]? =w.heap[b]?
 size:w.heap.size<=w'.heap.size
 os:w'.os=w.os
 tape:w'.tape=w.tape
 output:w'.output=w.output
theorem ub{w:bM}{t u ty el:aE}{inf:KU}{z:bn}{p:Pl}{x:bn}{m:aE}{news:az bn}(hu:P.underlying t=ah (.slice el))(hi:P.info? el=ah inf)(hz:inf.zero=ah z)(Re:z.cells.size=p.sz)(gj:inf.size=p.sz)
  (jA:p.nil=ai->p.n=0) (afU:p.nil=ak->∃vals,n8 w p.blk vals/\p.n<=p.cap/\p.cap<=maxLen/\p.off+p.cap*p.sz<=vals.size)
  (hx:App P w u x z.cells p.sz m news) (h1:(p.n+m)*inf.bytes<=140737488355328) (h2:p.n+m<=9223372036854775807):
  ∃p' w',(ix #[t,u] ty #[l_ p,x]).run P w= .ok (l_ p') w'/\aeP w w' p p' m news:=by
 have hmb:m*inf.bytes<=140737488355328:=dg (b_ _ (by omega)) h1;have hzv:∀W,(zeroValue el).run P W= .ok z W:=λW=>by simp[zeroValue,typeInfo,hi,hz]
 have hml:p.n+m<=maxLen:=by simp only[maxLen];omega
 have tail:∀(base:aA Addr) (sLen sCap:aE),∃(zs:aU) (app:Sem (dt bn)),(ix #[t,u] ty #[.slice base sLen sCap,x]).run P w=(mj el p.sz base sLen sCap (.slice base sLen sCap) x zs m app).run P w/\
   app.run P w= .ok news.toArray w/\app.run P w.drew= .ok news.toArray w.drew:=by
  intro base sLen sCap
  rcases hx.h with ⟨hd,hl,hf,hf2⟩|⟨⟨k,hk⟩,⟨k',hxv⟩,hn⟩
  ·have:=z7 (P:=P) (w:=w) (ty:=ty) hu hi hd (base:=base) (sLen:=sLen) (sCap:=sCap) hl;rw[gj]at this;exact⟨_,_,this,hf,hf2⟩
  ·have:=Dl (P:=P) (w:=w) (ty:=ty) hu hi hk (base:=base) (sLen:=sLen) (sCap:=sCap) hxv (by omega) hmb;rw[gj]at this;refine⟨_,_,this, ?_, ?_⟩
   ·rw[hn];split
    ·rename_i h0;have:fO z.cells m= #[]:=AL (by rw[size_zeroCells,Re,h0]);rw[this];rfl
    ·simp only[cj,hzv,bI,cT,um]
   ·rw[hn];split
    ·rename_i h0;have:fO z.cells m= #[]:=AL (by rw[size_zeroCells,Re,h0]);rw[this];rfl
    ·simp only[cj,hzv,bI,cT,um]
 have grow:∀(base:aA Addr) (sCap:aE) (pE:az bn) (zs:aU) (app:Sem (dt bn)),¬p.n+m<=sCap->pE.length=p.n*p.sz->(∀k u,k<p.n*p.sz->w.cell? (ad p.blk (p.off+k))=ah u->pE[k]? =ah u)->
   (fm p.sz p.n (.slice base p.n sCap)).run P w.drew= .ok pE.toArray w.drew->app.run P w.drew= .ok news.toArray w.drew->
   ∃p' w',(mj el p.sz base p.n sCap (.slice base p.n sCap) x zs m app).run P w= .ok (l_ p') w'/\aeP w w' p p' m news:=by
  intro base sCap pE zs app hc FH P0 hf ha
  have hr:=EE (P:=P) (w:=w) (size:=p.sz) (zs:=zs) (x:=x) (base:=base) hi hz hc h2 h1 hf ha
  refine⟨⟨ak,w.heap.size,0,grownCap w (p.n+m) sCap el,p.n+m,p.sz⟩,_,hr,⟨rfl,rfl,λh=>(by cases h),λ_=> ?_,λ_=> .inr rfl,λb hb _=>heap_alloc_old w.drew _ b hb,by simp,rfl,rfl,rfl⟩⟩
  have hge:=grownCap_ge w (p.n+m) sCap el
  refine⟨_,⟨_,_,heap_alloc_new w.drew _,λq _=>by simp⟩,hge,grownCap_le_maxLen w _ _ _ hml, ?_,λk u hk sF=> ?_,λk hk=> ?_⟩
  ·simp only[Array.size_append,WQ,size_zeroCells,Re,FH,hx.len,<-dn,bX];exact b_ _ (by omega)
  ·rw[bX,O8,EK (by simpa [FH]using hk),ig];exact P0 k u hk sF
  ·rw[bX,O8,Array.getElem?_append_right (by simp[FH]),EK (by simp[FH,hx.len];omega),ig];congr 1;simp[FH]
 cases hq:p.nil with
 |true=>
  have hn:=jA hq;rw[nN hq];obtain⟨zs,app,hr,ha,ha2⟩:=tail aj 0 0;rw[hr];by_cases hm:m=0
  ·subst hm;refine⟨⟨ai,0,0,0,0,p.sz⟩,w,EF ha,⟨by simp[hn],rfl,λ_=>⟨rfl,hn,rfl⟩,λh=>(by cases h),λh=>(by cases h),λ_ _ _=>rfl,cG _,rfl,rfl,rfl⟩⟩
  ·have:=grow aj 0 [] zs app (by omega) (by simp[hn]) (λk u hk=>by rw[hn]at hk;simp at hk) (by rw[hn];exact run_firstCells_none _ _ _ _ _) ha2;rwa[hn]at this
 |false=>
  rw[e6 hq];obtain⟨vals,hb,TB,Yc,mQ⟩:=afU hq;obtain⟨zs,app,hr,ha,ha2⟩:=tail (ah (ad p.blk p.off)) p.n p.cap;rw[hr];have hle:p.n*p.sz<=p.cap*p.sz:=b_ _ TB;by_cases hc:p.n+m<=p.cap
  ·have vu:p.off+p.n*p.sz+news.length<=vals.size:=by have:(p.n+m)*p.sz<=p.cap*p.sz:=b_ _ hc;rw[dn]at this;rw[hx.len];omega
   have LM:=nQ (P:=P) w hb vu hx.one;have hrr:=EG (P:=P) (s:= .slice (ah (ad p.blk p.off)) p.n p.cap) (x:=x) (el:=el) (size:=p.sz) (zs:=zs) ha hc (by rw[Addr.oc];exact LM);refine⟨⟨ak,p.blk,p.off,p.cap,p.n+m,p.sz⟩,_,hrr,⟨rfl,rfl,λh=>(by cases h),λ_=>⟨_,hb.setRow (e8 vu),hc,Yc,by rw[e8 vu];exact mQ,λk u hk sF=> ?_,λk hk=> ?_⟩,λ_=> .inl ⟨hq,rfl⟩,λb _ Q9=>setRow_other w _ b _ (Q9 rfl),by simp[lP],rfl,rfl,rfl⟩⟩
   ·show(ed vals (p.off+p.n*p.sz) news)[p.off+k]? =ah u;rw[gu vu,bJ (by omega),<-hb.cell];exact sF
   ·show(ed vals (p.off+p.n*p.sz) news)[p.off+p.n*p.sz+k]? =news[k]?;rw[gu vu,bA (by rw[hx.len];omega)];congr 1;omega
  ·have hcell:∀k,k<p.n*p.sz->w.cell? (ad p.blk (p.off+k))=vals[p.off+k]? :=λk _=>hb.cell _;let pE:=(vals.toList.drop p.off).take (p.n*p.sz);have FH:pE.length=p.n*p.sz:=by simp only[pE,eL,iC,dS];omega
   have P0:∀k u,k<p.n*p.sz->w.cell? (ad p.blk (p.off+k))=ah u->pE[k]? =ah u:=λk u hk sF=>by rw[hcell k hk]at sF;simp only[pE,d_,bA hk,dQ,cX,sF]
   refine grow (ah (ad p.blk p.off)) p.cap pE zs app hc FH P0 ?_ ha2;refine run_firstCells_some w.drew p.sz p.n _ _ _ pE FH (λj v hj=> ?_);have j8:j<p.n*p.sz:=by rw[<-FH];exact(aT.1 hj).1
   simp only[pE,d_,bA j8,dQ,cX]at hj;rw[Addr.oc];have:=hcell j j8;rw[hj]at this;simpa using this
end
end Go.FG

