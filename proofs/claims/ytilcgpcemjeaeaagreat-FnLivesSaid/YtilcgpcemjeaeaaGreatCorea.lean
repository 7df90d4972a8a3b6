/- An evaluator for the part of the language that this program uses, proved sound over the model: states told as values and lists; what an evaluation tells, the call does. No condition. -/
import Derived.Calls
import Derived.Orders
import Derived.Below
import Derived.Laws.AppendOwn
import Derived.Laws.Slices
import Derived.Laws.StructEq
import Derived.Laws.Tables
import Derived.Laws.MakeOwn
import Derived.Laws.IdiomStrings
import Derived.Laws.BytesArg
import Derived.Laws.NewFold
import Derived.SizedLaws
import Derived.Carry
import Derived.ProofKit
import Derived.KernelRfl
import Derived.Laws.Strings
set_option linter.unusedVariables false
set_option linter.unusedSimpArgs false
set_option maxRecDepth 100000
open Array renaming getElem?_eq_some_iff->dV,getD_eq_getD_getElem?->eI,getElem?_setIfInBounds->n9,toArray_toList->tU,getElem?_toList->cW,ext'->si,length_toList->dS,toList_map->Ae,getElem?_map->Oa,getElem?_extract->ea,eq_empty_of_size_eq_zero->Ad,append_assoc->N_,getElem?_append_left->DT
open BitVec renaming ofInt->b9
open Bool renaming false->ak,true->ai,false_eq_true->du,and_eq_true->aL,not_eq_true'->dv,and_assoc->nF,or_eq_false_iff->iF,not_false->bQ,not_true->aY
open ByteArray renaming size_extract->yr,size_append->dI,empty->Hm,size->cj
open Go renaming IntKind->nc,Value->bj,Operand->dx,Oper->fA,World->bK,Program->cZ,TypeInfo->JZ
open Go.Act renaming put->Vx,eval->HG
open Go.Builtin renaming len_->we,max2->DY,min2->DZ,clear_->oJ,zeroCells->fP,nextslicecap->Hn,firstCells->fy,lenOf->pq,append_->iu
open Go.Instr renaming loadAt->yF,sureAddr->uF,storeAt->Wi,fieldAt->Wg,indexAt->Wh,sliceBound->qI,sliceBounds->mX,sliceAt->qj,fill->pr,buildSlice->zN
open Go.IntKind renaming i64->ao,wrap_i64->pW
open Go.Op renaming bytesLess->bY
open Go.Oper renaming wp->Oc
open Go.Region renaming binds->mK
open Go.Result renaming andThen_ok->bF
open Go.Sem renaming run_bind->ch,run_pure->cS,run->ng,run_ite->m7
open Go.World renaming frozen?->ZA,cell?_of_block->uG,setRow->lC
open Int renaming toNat_natCast->eQ,natCast_mul->Wk
open List renaming mem_cons_of_mem->c7,mem_cons->cu,mem_cons_self->dL,mem_flatMap->bL,mem_of_getElem?->aR,append_nil->dj,length_nil->jL,getElem?_toArray->h_,append_assoc->cq,getElem?_append_left->dF,getElem?_take->d_,getElem?_append_right->dc,getElem?_drop->dR,length_eq_one_iff->gV,getElem?_cons_succ->dO,getD->j_,getElem?_map->bJ,getElem_mem->bA,mem_map->cX,all_eq_true->bu,range->cR,getElem?_range->vE,getElem?_eq_none->kT,getElem?_eq_some_iff->aT,mem_of_mem_drop->kU,mem_of_mem_take->kV,getElem?_of_mem->bX,map_toArray->Dg,map_cons->fB,map_nil->BD,ext_getElem?->VC,eq_nil_of_length_eq_zero->gg,mem_append->bc,length_cons->de,foldl_cons->Df,map_map->mg,map_congr_left->PS,size_toArray->VE,length_map->bR,getD_eq_getElem?_getD->cY,getElem?_set->PR,all_cons->uI,length_take->eJ,length_drop->iA,length_singleton->bz,mem_append_left->bW,mem_append_right->bP,nodup_append->eK,length_set->cQ,mem_or_eq_of_mem_set->jD,nodup_cons->kC,nil_append->gD,mem_singleton->a_,getElem?_cons_zero->sj
open List.cons renaming injEq->Z2
open Nat renaming beq->bD,blt->qk,ble->fK,le_refl->cw,le_trans->dg,lt_of_lt_of_le->jt,eq_of_beq_eq_true->aU,add_zero->yH,add_assoc->lW,le_of_ble_eq_true->cG,add_mul->dp,zero_le->bB,mul_le_mul_right->bZ,eq_zero_or_pos->C3,div_lt_iff_lt_mul->yu,mod_lt->C4,div_add_mod->JG,mul_comm->D3,zero_add->bS,lt_or_gt_of_ne->PV,add_comm->iZ,sub_zero->rX,lt_irrefl->bm
open Option renaming some->ah,none->aj,map_some->jc,getD_some->yI
open Option.some renaming inj->aJ,injEq->jx
open Prod.mk renaming inj->bT,injEq->jd
open UInt8 renaming ofNat->aw
open _root_ renaming Nat->aE,Int->ax,Bool->aW,ByteArray->aq,List->aC,Option->az,Array->dq,if_pos->bw,if_neg->bG,absurd->cO,cond_true->au,cond_false->ay,decide_eq_true_eq->bg,of_decide_eq_true->cm,congrArg->lI
namespace Go.FG
inductive Ck where
 |i (k:nc)|b|s|l (e:aE)|o
inductive CV where
 |i (k:nc) (n:ax)|b (x:aW)|s (x:aq)|l (e:aE) (xs:aC (aC CV))
abbrev aQ:=aC (aC CV)
def CV.kd:CV->Ck
 | .i k _=> .i k| .b _=> .b| .s _=> .s| .l e _=> .l e
def bI:CV->ax| .i _ n=>n|_=>0
def cvB:CV->aW| .b x=>x|_=>ak
def bn:CV->aq| .s x=>x|_=>⟨#[]⟩
def iR:CV->aQ| .l _ xs=>xs|_=>[]
def ar(xs:aQ)(i j:aE):CV:=(xs.getD i []).getD j (.b ak)
inductive AV where
 |i (k:nc) (n:ax)|b (x:aW)|s (x:aq)
 |sh (e:aE) (xs:aQ)
 |nl
 |own (nm:aE)
 |vw (nm lo hi:aE)
 |bp (nm j:aE)
 |rp (nm i j:aE)
 |sp (e:aE) (xs:aQ) (i j:aE)
 |inn (nm i j:aE)
 |ip (nm i j i2 j2:aE)
 |fn (f:aE) (iQ:aC (aC CV))
 |fp (xs:aC CV) (j:aE)
inductive SV where
 |v (agg:aW) (xs:aC AV)|j9 (xs:aC (aW×aC AV))|un
inductive Obj where
 |box (xs:aC AV)|nX (xs:aC CV)|row (e:aE) (ex:aW) (xs:aQ)|fV (e:aE) (xs:aQ)|dead
inductive eO where
 |v (x:SV)|o (x:Obj)|jX
def zo(n:aE):aW:=bD (n%1000) 999&&qk n 900000000
abbrev St:=aE->eO
def pG(s:St)(k:aE)(c:eO):St:=λn=>bif bD n k then c else s n
def wr(s:St):aC (aE×eO)->St
 |[]=>s
 |(k,c)::r=>wr (pG s k c) r
def qg(n:aE):aE:=2*n
def c_(n:aE):aE:=2*n+1
inductive Rd (α:Type) where
 |ret (a:α)|fail|get (k:aE) (f:eO->Rd α)
def Rd.bind{α β:Type}:Rd α->(α->Rd β)->Rd β
 | .ret a,f=>f a
 | .fail,_=> .fail
 | .get k g,f=> .get k λc=>(g c).bind f
def Rd.run{α:Type}:Rd α->St->aC aE->az (α×aC aE)
 | .ret a,_,l=>ah (a,l)
 | .fail,_,_=>aj
 | .get k f,s,l=>(f (s k)).run s (k::l)
structure TI where
 agg:aW
 ks:aC Ck
 bytes:aE
inductive AA where
 |i (k:nc) (n:ax)|b (x:aW)|s (x:aq)|sh (e:aE) (xs:aQ)|nl
 |ow (e:aE) (ex:aW) (xs:aQ)|kp (xs:aQ)|fn (f:aE) (iQ:aC (aC CV))
inductive fa where
 |v (agg:aW) (xs:aC AA)|pt (xs:aC AA)|fb (xs:aC CV)
structure dz where
 rs:aC fa
 outs:aC (aC AA)
structure Tab where
 ty:aE->az TI
 fo:aE->aE->az (aE×aE)
 eqs:aC aE
 R7:aE->aE->aW:=λ_ _=>ak
inductive Om where
 |nat|own (e:aE)|sh (e:aE)
structure fU extends Tab where
 call:aE->aC fa->az (aW×dz)
 om:aE->aE->Om
 mode:aE->aE->aW
 keep:aE->aC aE
 tk:aE->aW
instance:Coe fU Tab:=⟨fU.toTab⟩
structure sO where
 cond:aW
 ws:aC (aE×eO)
def mF(n:aE):aC aE->aW
 |[]=>ak|m::r=>bD n m||mF n r
def cst:bj->SV
 | .int k n=> .v ak [.i k n]| .bool x=> .v ak [.b x]| .string x=>bif fK x.size 4611686018427387904 then .v ak [.s x]else .un
 | .slice aj 0 0=> .v ak [.nl]
 |_=> .un
def GZ(x:dx):Rd SV:=
 match x with
 | .tmp t=> .get (qg t) λ| .v x=> .ret x|_=> .ret .un
 | .const v=> .ret (cst v)
 | .func f=> .ret (.v ak [.fn f []])
 | .global _=> .fail
def jH(nm:aE):Rd Obj:= .get (c_ nm) λ| .o x=> .ret x|_=> .fail
def fresh(nm:aE):Rd Unit:= .get (c_ nm) λ| .jX=>bif fK nm 899999999 then .ret ()else .fail|_=> .fail
def rJ(x:dx):Rd AV:=(GZ x).bind λ| .v ak [a]=> .ret a|_=> .fail
def Ct(x:dx):Rd (nc×ax):=(rJ x).bind λ| .i k n=> .ret (k,n)|_=> .fail
def dw(o:fA)(v:SV):aC (aE×eO):=match o.dst with|some d=>[(qg d, .v v)]|none=>[]
def val(o:fA)(v:SV):Rd sO:= .ret ⟨ai,dw o v⟩
def zJ(o:fA)(v:AV):Rd sO:=val o (.v ak [v])
def LH(o:fA)(c:aW)(v:AV):Rd sO:= .ret ⟨c,dw o (.v ak [v])⟩
def sI(E:fU)(t:aE):Rd TI:=match E.ty t with|some i=> .ret i|none=> .fail
def pP(E:fU)(t:aE):Rd Ck:=(sI E t).bind λti=>match ti.agg,ti.ks with|false,[k]=> .ret k|_,_=> .fail
def CZ:Ck->AV
 | .i k=> .i k 0| .b=> .b ak| .s=> .s ⟨#[]⟩| .l _=> .nl| .o=> .nl
def zL:Ck->CV
 | .i k=> .i k 0| .b=> .b ak| .s=> .s ⟨#[]⟩| .l e=> .l e []| .o=> .b ak
def K9(ks:aC Ck):aW:=ks.all λ| .o=>ak|_=>ai
def dec:Ck->CV->AV
 | .i k,x=> .i k (bI x)| .b,x=> .b (cvB x)| .s,x=> .s (bn x)| .l e,x=> .sh e (iR x)| .o,_=> .nl
def uV(xs:aQ)(i:aE):aE->aC Ck->aC AV
 |_,[]=>[]
 |j,k::ks=>dec k (ar xs i j)::uV xs i (j+1) ks
def AD(nm:aE)(xs:aQ)(i:aE):aE->aC Ck->aC AV
 |_,[]=>[]
 |j, .l _::ks=> .inn nm i j::AD nm xs i (j+1) ks
 |j,k::ks=>dec k (ar xs i j)::AD nm xs i (j+1) ks
def YG:CV->AV
 | .i k n=> .i k n| .b x=> .b x| .s x=> .s x| .l e xs=> .sh e xs
def iD{α:Type}(xs:aC α)(j:aE)(ys:aC α):aC α:=xs.take j++ys++xs.drop (j+ys.length)
def eA(xs:aQ)(i j:aE)(ys:aC CV):aQ:=xs.set i (iD (xs.getD i []) j ys)
def aAn(agg:aW)(xs:aC AV):SV:= .v agg xs
def eW(xs:aQ)(lo hi:aE):aQ:=(xs.drop lo).take (hi-lo)
def plain(ks:aC Ck):aW:=ks.all λ| .i _=>ai| .b=>ai| .s=>ai|_=>ak
def ckB:Ck->Ck->aW
 | .i a, .i b=>decide (a=b)| .b, .b=>ai| .s, .s=>ai| .l a, .l b=>bD a b| .o, .o=>ai|_,_=>ak
def qc:aC Ck->aC Ck->aW
 |[],[]=>ai|x::l,y::r=>ckB x y&&qc l r|_,_=>ak
def Ik(ex:aW)(k:Ck)(a:AV):Rd (CV×aC (aE×eO)):=
 match k,a with
 | .i k, .i k' n=>if k=k' then .ret (.i k n,[])else .fail
 | .b, .b x=> .ret (.b x,[])
 | .s, .s x=> .ret (.s x,[])
 | .l e, .nl=> .ret (.l e [],[])
 | .l e, .sh e' xs=>bif bD e e'&& !ex then .ret (.l e xs,[])else .fail
 | .l e, .own nm=>(jH nm).bind λ
  | .row e' uh xs=>bif bD e e'&&uh then(bif ex then .ret (.l e xs,[(c_ nm, .o .dead)])else .fail)else .fail
  | .fV e' xs=>bif bD e e'&& !ex then .ret (.l e xs,[])else .fail
  |_=> .fail
 |_,_=> .fail
def zi(ex:aW):aC Ck->aC AV->Rd (aC CV×aC (aE×eO))
 |[],[]=> .ret ([],[])
 |k::ks,a::r=>(Ik ex k a).bind λ(c,w)=>(zi ex ks r).bind λ(cs,ws)=> .ret (c::cs,w++ws)
 |_,_=> .fail
def aih:aC AV->aW
 |[]=>ai
 | .sh _ _::_=>ak
 |_::r=>aih r
end Go.FG

namespace Go.FG
def adY(op:BinOp)(k:nc)(a b:ax):az (aW×AV):=
 match op with
 | .add=>ah (ai, .i k (k.wrap (a+b)))
 | .sub=>ah (ai, .i k (k.wrap (a-b)))
 | .mul=>ah (ai, .i k (k.wrap (a*b)))
 | .quo=>ah (!(b==0), .i k (k.wrap (a.tdiv b)))
 | .rem=>ah (!(b==0), .i k (a.tmod b))
 | .and=>ah (ai, .i k (k.wrap (b9 k.bits a&&&b9 k.bits b).toNat))
 | .or=>ah (ai, .i k (k.wrap (b9 k.bits a|||BitVec.ofInt k.bits b).toNat))
 | .xor=>ah (ai, .i k (k.wrap (b9 k.bits a^^^b9 k.bits b).toNat))
 | .eql=>ah (ai, .b (a==b))
 | .neq=>ah (ai, .b (a !=b))
 | .lss=>ah (ai, .b (decide (a<b)))
 | .leq=>ah (ai, .b (decide (a<=b)))
 | .gtr=>ah (ai, .b (decide (a>b)))
 | .geq=>ah (ai, .b (decide (a≥b)))
 |_=>aj
def ad0(op:BinOp)(a b:aq):az (aW×AV):=
 match op with
 | .add=>ah (decide (a.size+b.size<=4611686018427387904), .s (a++b))
 | .eql=>ah (ai, .b (a.toList==b.toList))
 | .neq=>ah (ai, .b (!(a.toList==b.toList)))
 | .lss=>ah (ai, .b (bY a.toList b.toList))
 | .leq=>ah (ai, .b (bY a.toList b.toList||a.toList==b.toList))
 | .gtr=>ah (ai, .b (!(bY a.toList b.toList||a.toList==b.toList)))
 | .geq=>ah (ai, .b (!(bY a.toList b.toList)))
 |_=>aj
def WO:aC AV->aC AV->az aW
 |[],[]=>ah ai
 | .i k a::l, .i k' b::r=>if k=k' then(match WO l r with|some t=>ah ((a==b)&&t)|none=>aj)else aj
 | .b a::l, .b b::r=>match WO l r with|some t=>ah ((a==b)&&t)|none=>aj
 | .s a::l, .s b::r=>match WO l r with|some t=>ah ((a.toList==b.toList)&&t)|none=>aj
 |_,_=>aj
def GN:AV->Ck
 | .i k _=> .i k| .b _=> .b| .s _=> .s|_=> .o
def Kg(op:BinOp)(k:Ck):AV->AV->az (aW×AV)
 | .i k a, .i k' b=>if k=k' then adY op k a b else aj
 | .s a, .s b=>ad0 op a b
 | .b a, .b b=>match op,k with| .eql, .b=>ah (ai, .b (a==b))| .neq, .b=>ah (ai, .b (!(a==b)))|_,_=>aj
 |_,_=>aj
def shV(op:BinOp):AV->AV->az (aW×AV)
 | .i k a, .i _ b=>match op with
  | .shl=>ah (decide (0<=b), .i k (k.wrap (a*2^(min b.toNat k.bits))))
  | .shr=>ah (decide (0<=b), .i k (a.fdiv (2^(min b.toNat k.bits))))
  |_=>aj
 |_,_=>aj
def OZ:BinOp->aW| .shl=>ai| .shr=>ai|_=>ak
def isEq:BinOp->aW| .eql=>ai| .neq=>ai|_=>ak
def T1{α:Type}:az α->Rd α|some a=> .ret a|none=> .fail
def adZ(E:fU)(t:aE)(op:BinOp)(x y:SV):Rd (aW×AV):=
 match x,y with
 | .v ak [a], .v ak [b]=>bif OZ op then T1 (shV op a b)else(pP E t).bind λk=>T1 (Kg op k a b)
 | .v ai xs, .v ai ys=>(sI E t).bind λti=>
   bif isEq op&&mF t E.eqs&&qc (xs.map GN) ti.ks&&qc (ys.map GN) ti.ks&&plain ti.ks then T1 (match WO xs ys with|some r=>ah (ai,AV.b (match op with| .eql=>r|_=> !r))|none=>aj)else .fail
 |_,_=> .fail
def MW:aC AV->aC (aE×aC AV)->aC AV
 |z,[]=>z
 |z,(j,ys)::r=>MW (iD z j ys) r
def G0(E:fU)(t:aE):aC (aE×dx)->Rd (aC (aE×aC AV))
 |[]=> .ret []
 |(f,x)::r=>(GZ x).bind λ
  | .v _ ys=>match E.fo t f with
   |some (o,n)=>bif bD ys.length n then(G0 E t r).bind λl=> .ret ((o,ys)::l)else .fail
   |none=> .fail
  |_=> .fail
def mz(E:fU)(a:AV):Rd (aE×aQ):=
 match a with
 | .sh e xs=> .ret (e,xs)
 | .own nm=>(jH nm).bind λ| .row e _ xs=> .ret (e,xs)| .fV e xs=> .ret (e,xs)|_=> .fail
 | .vw nm lo hi=>(jH nm).bind λ| .row e _ xs=> .ret (e,eW xs lo hi)| .fV e xs=> .ret (e,eW xs lo hi)|_=> .fail
 | .inn nm i j=>(jH nm).bind λ
  | .row e ai xs=>(sI E e).bind λti=>match ti.ks[j]? with|some (.l e2)=> .ret (e2,iR (ar xs i j))|_=> .fail
  |_=> .fail
 |_=> .fail
def ae5(E:fU)(k:Ck)(a:AV):Rd ax:=
 match k,a with
 | .s, .s x=> .ret x.size
 | .l _, .nl=> .ret 0
 | .l _, .vw nm lo hi=>(jH nm).bind λ| .row _ _ _=> .ret ((hi-lo:aE):ax)| .fV _ _=> .ret ((hi-lo:aE):ax)|_=> .fail
 | .l _,a=>(mz E a).bind λ(_,xs)=> .ret xs.length
 |_,_=> .fail
def Ko(ex:aW)(ks:aC Ck):aC (aE×dx)->aQ->Rd (aQ×aC (aE×eO))
 |[],z=> .ret (z,[])
 |(i,x)::r,z=>(GZ x).bind λ
  | .v _ ys=>bif fK (i+1) z.length then(zi ex ks ys).bind λ(cs,w)=>(Ko ex ks r (z.set i cs)).bind λ(z,ws)=> .ret (z,w++ws)else .fail
  |_=> .fail
def MR:aC (aE×dx)->Rd aW
 |[]=> .ret ai
 |(_,x)::r=>(GZ x).bind λ
  | .v _ ys=>(MR r).bind λb=> .ret (aih ys&&b)
  |_=> .fail
def aN(ks:aC Ck)(n:aE):aQ:=List.replicate n (ks.map zL)
def bytesOf(xs:aQ):aq:=⟨(xs.map λy=>aw (bI (y.getD 0 (.b ak))).toNat).toArray⟩
def qD(s:aq):aQ:=s.data.toList.map λb=>[.i .u8 (b.toNat:ax)]
def u8s:aC Ck->aW|[.i .u8]=>ai|_=>ak
def flat(E:fU)(ks:aC Ck):aW:=ks.all λ
 | .l e=>match E.ty e with|some ti=>plain ti.ks|none=>ak
 |_=>ai
def cg(n:aE)(bytes:aE):aW:=decide (n*bytes<=140737488355328)&&decide (n<=9223372036854775807)
def tv(E:fU)(ti:TI)(p:AV):Rd (aC AV):=
 match p with
 | .bp nm j=>(jH nm).bind λ
  | .box xs=>bif fK (j+ti.ks.length) xs.length then .ret ((xs.drop j).take ti.ks.length)else .fail
  | .nX xs=>bif fK (j+ti.ks.length) xs.length then .ret (((xs.drop j).take ti.ks.length).map YG)else .fail
  |_=> .fail
 | .fp xs j=>bif fK (j+ti.ks.length) xs.length then .ret (((xs.drop j).take ti.ks.length).map YG)else .fail
 | .sp e xs i j=>(sI E e).bind λte=>bif qc ((te.ks.drop j).take ti.ks.length) ti.ks then .ret (uV xs i j ti.ks)else .fail
 | .rp nm i j=>(jH nm).bind λ
  | .row e ex xs=>(sI E e).bind λte=>bif qc ((te.ks.drop j).take ti.ks.length) ti.ks then(bif ex&&zo nm then(bif plain ti.ks then .ret (uV xs i j ti.ks)else .fail)else .ret (bif ex then AD nm xs i j ti.ks else uV xs i j ti.ks))else .fail
  | .fV e xs=>(sI E e).bind λte=>bif qc ((te.ks.drop j).take ti.ks.length) ti.ks then .ret (uV xs i j ti.ks)else .fail
  |_=> .fail
 | .ip nm i j i2 j2=>(jH nm).bind λ
  | .row e ai xs=>(sI E e).bind λte=>match te.ks[j]? with
   |some (.l e2)=>(sI E e2).bind λt2=>bif qc ((t2.ks.drop j2).take ti.ks.length) ti.ks then .ret (uV (iR (ar xs i j)) i2 j2 ti.ks)else .fail
   |_=> .fail
  |_=> .fail
 |_=> .fail
def Hd(E:fU)(p:AV)(ys:aC AV):Rd (aC (aE×eO)):=
 match p with
 | .bp nm j=>(jH nm).bind λ
  | .box xs=>bif fK (j+ys.length) xs.length then .ret [(c_ nm, .o (.box (iD xs j ys)))]else .fail
  |_=> .fail
 | .rp nm i j=>(jH nm).bind λ
  | .row e ex xs=>(sI E e).bind λte=>bif plain ((te.ks.drop j).take ys.length)then(zi ak ((te.ks.drop j).take ys.length) ys).bind λ(cs,_)=> .ret [(c_ nm, .o (.row e ex (eA xs i j cs)))]else .fail
  |_=> .fail
 | .ip nm i j i2 j2=>(jH nm).bind λ
  | .row e ai xs=>(sI E e).bind λte=>match te.ks[j]? with
   |some (.l e2)=>(sI E e2).bind λt2=>bif plain t2.ks then(zi ak ((t2.ks.drop j2).take ys.length) ys).bind λ(cs,_)=>
    .ret [(c_ nm, .o (.row e ai (eA xs i j [.l e2 (eA (iR (ar xs i j)) i2 j2 cs)])))]else .fail
   |_=> .fail
  |_=> .fail
 |_=> .fail
def I_:aC AV->aW
 |[]=>ai
 | .own _::_=>ak
 |_::r=>I_ r
def zu:aE->aC AV->az (aE×aE)
 |_,[]=>aj
 |q, .own n::r=>bif I_ r then ah (q,n)else aj
 |q,_::r=>zu (q+1) r
def Dy(e2 n2:aE)(zs:aQ):aC Ck->aC AV->az (aC CV)
 |[],[]=>ah []
 | .i k::ks, .i k' x::r=>if k=k' then(Dy e2 n2 zs ks r).map (.i k x:: ·)else aj
 | .b::ks, .b x::r=>(Dy e2 n2 zs ks r).map (.b x:: ·)
 | .s::ks, .s x::r=>(Dy e2 n2 zs ks r).map (.s x:: ·)
 | .l e::ks, .own n::r=>bif bD e e2&&bD n n2 then(Dy e2 n2 zs ks r).map (.l e2 zs:: ·)else aj
 |_,_=>aj
def Hc(E:fU)(n i j:aE)(ys:aC AV):Rd (aC (aE×eO)):=
 (jH n).bind λ
 | .row e ai xs=>(sI E e).bind λte=>match zu 0 ys with
  |some (q,n2)=>bif bD n n2 then .fail else(jH n2).bind λ
   | .row e2 ai zs=>(sI E e2).bind λt2=>bif plain t2.ks&&fK (j+ys.length) te.ks.length then(match Dy e2 n2 zs ((te.ks.drop j).take ys.length) ys with
    |some cs=> .ret [(c_ n, .o (.row e ai (eA xs i j cs))),(c_ n2, .o .dead)]
    |none=> .fail)else .fail
   |_=> .fail
  |none=> .fail
 |_=> .fail
def Vd(E:fU)(p:AV)(ys:aC AV):Rd (aC (aE×eO)):=
 match p with
 | .rp n i j=>bif zo n then Hc E n i j ys else Hd E (.rp n i j) ys
 |p=>Hd E p ys
def R2(E:fU)(t:aE)(f:aE)(p:AV):Rd AV:=
 match E.fo t f with
 |none=> .fail
 |some (o,_)=>match p with
  | .bp nm j=> .ret (.bp nm (j+o))
  | .rp nm i j=> .ret (.rp nm i (j+o))
  | .sp e xs i j=> .ret (.sp e xs i (j+o))
  | .ip nm i j i2 j2=> .ret (.ip nm i j i2 (j2+o))
  | .fp xs j=> .ret (.fp xs (j+o))
  |_=> .fail
def Sy(E:fU)(e:aE)(x:AV)(n:ax):Rd (aW×AV):=
 match x with
 | .sh e' xs=>bif bD e e' then .ret (decide (0<=n)&&decide (n<(xs.length:ax)), .sp e' xs n.toNat 0)else .fail
 | .own nm=>(jH nm).bind λ
  | .row e' _ xs=>bif bD e e' then .ret (decide (0<=n)&&decide (n<(xs.length:ax)), .rp nm n.toNat 0)else .fail
  | .fV e' xs=>bif bD e e' then .ret (decide (0<=n)&&decide (n<(xs.length:ax)), .rp nm n.toNat 0)else .fail
  |_=> .fail
 | .vw nm lo hi=>(jH nm).bind λ
  | .row e' _ xs=>bif bD e e' then .ret (decide (0<=n)&&decide (n<((hi-lo:aE):ax)), .rp nm (lo+n.toNat) 0)else .fail
  | .fV e' xs=>bif bD e e' then .ret (decide (0<=n)&&decide (n<((hi-lo:aE):ax)), .rp nm (lo+n.toNat) 0)else .fail
  |_=> .fail
 | .inn nm i j=>(jH nm).bind λ
  | .row e1 ai xs=>(sI E e1).bind λte=>match te.ks[j]? with
   |some (.l e')=>bif bD e e' then .ret (decide (0<=n)&&decide (n<((iR (ar xs i j)).length:ax)), .ip nm i j n.toNat 0)else .fail
   |_=> .fail
  |_=> .fail
 |_=> .fail
def nZ(x:az dx)(d:ax):Rd ax:=
 match x with
 |none=> .ret d
 |some x=>(Ct x).bind λ(_,n)=> .ret n
def iy(l h n:ax):aW:=decide (0<=l)&&decide (l<=h)&&decide (h<=n)
def Uv(e:aE)(x:AV)(lo hi:az dx):Rd (aW×AV):=
 match x with
 | .sh e' xs=>bif bD e e' then(nZ lo 0).bind λl=>(nZ hi xs.length).bind λh=> .ret (iy l h xs.length, .sh e' (eW xs l.toNat h.toNat))else .fail
 | .own nm=>(jH nm).bind λ
  | .row e' _ xs=>bif bD e e' then(nZ lo 0).bind λl=>(nZ hi xs.length).bind λh=> .ret (iy l h xs.length, .vw nm l.toNat h.toNat)else .fail
  | .fV e' xs=>bif bD e e' then(nZ lo 0).bind λl=>(nZ hi xs.length).bind λh=> .ret (iy l h xs.length, .vw nm l.toNat h.toNat)else .fail
  |_=> .fail
 | .vw nm a b=>(jH nm).bind λ
  | .row e' _ _=>bif bD e e' then(nZ lo 0).bind λl=>(nZ hi ((b-a:aE):ax)).bind λh=> .ret (iy l h ((b-a:aE):ax), .vw nm (a+l.toNat) (a+h.toNat))else .fail
  | .fV e' _=>bif bD e e' then(nZ lo 0).bind λl=>(nZ hi ((b-a:aE):ax)).bind λh=> .ret (iy l h ((b-a:aE):ax), .vw nm (a+l.toNat) (a+h.toNat))else .fail
  |_=> .fail
 | .nl=>(nZ lo 0).bind λl=>(nZ hi 0).bind λh=> .ret (iy l h 0, .nl)
 |_=> .fail
def Lt(E:fU)(k:Ck)(x:AV)(lo hi:az dx):Rd (aW×AV):=
 match k,x with
 | .s, .s a=>(nZ lo 0).bind λl=>(nZ hi a.size).bind λh=> .ret (iy l h a.size, .s (a.extract l.toNat h.toNat))
 | .l e,x=>(sI E e).bind λ_=>Uv e x lo hi
 |_,_=> .fail
def wN(e:aE)(s:AV):Rd (aW×aQ×aC aE):=
 match s with
 | .nl=> .ret (ai,[],[])
 | .own nm=>(jH nm).bind λ
  | .row e' ex xs=>bif bD e e' then .ret (ex,xs,[nm])else .fail
  |_=> .fail
 | .vw nm lo hi=>(jH nm).bind λ
  | .row e' ex xs=>bif bD e e' then .ret (ex,eW xs lo hi,[nm])else .fail
  |_=> .fail
 |_=> .fail
def Tj(E:fU)(tz e:aE)(ks:aC Ck)(b:aC aE)(x:AV):Rd (aW×aQ×aC (aE×eO)):=
 match x with
 | .s a=>bif u8s ks then .ret (ai,qD a,[])else .fail
 | .nl=> .ret (ai,[],[])
 | .sh e' xs=>bif bD e e' then .ret (plain ks,xs,[])else .fail
 | .own nm=>(jH nm).bind λ
  | .row e' ex xs=>bif bD e e' then
    (bif plain ks|| !ex then .ret (plain ks,xs,[])
    else bif mF nm b then .fail
    else bif E.tk tz then .ret (ak,xs,[(c_ nm, .o (.fV e xs))])else .ret (ai,xs,[(c_ nm, .o .dead)]))else .fail
  | .fV e' xs=>bif bD e e' then .ret (plain ks,xs,[])else .fail
  |_=> .fail
 | .vw nm lo hi=>(jH nm).bind λ
  | .row e' ex xs=>bif bD e e' then
    (bif plain ks|| !ex then .ret (plain ks,eW xs lo hi,[])
    else bif mF nm b then .fail
    else bif E.tk tz then .ret (ak,eW xs lo hi,[(c_ nm, .o (.fV e xs))])else .fail)else .fail
  | .fV e' xs=>bif bD e e' then .ret (plain ks,eW xs lo hi,[])else .fail
  |_=> .fail
 | .inn nm i j=>bif plain ks then(mz E (.inn nm i j)).bind λ(e',xs)=>bif bD e e' then .ret (ai,xs,[])else .fail else .fail
 |_=> .fail
def oc(b:aC aE):aC (aE×eO):=b.map λn=>(c_ n, .o .dead)
def Gh(E:fU)(tz:aE)(t:aE)(s x:AV):Rd (aW×AV×aC (aE×eO)):=
 (sI E t).bind λti=>match ti.agg,ti.ks with
 |false,[.l e]=>(sI E e).bind λte=>bif K9 te.ks then(wN e s).bind λ(C5,xs,b)=>
  (Tj E tz e te.ks b x).bind λ(AE,ys,w2)=>(fresh tz).bind λ_=>
  .ret (cg (xs.length+ys.length) te.bytes, .own tz,oc b++(w2++[(c_ tz, .o (.row e (C5&&AE) (xs++ys)))]))else .fail
 |_,_=> .fail
def Vu(E:fU)(tz:aE)(t:aE)(s:AV)(n:ax):Rd (aW×AV×aC (aE×eO)):=
 (sI E t).bind λti=>match ti.agg,ti.ks with
 |false,[.l e]=>(sI E e).bind λte=>bif K9 te.ks&&flat E te.ks then(wN e s).bind λ(ex,xs,b)=>(fresh tz).bind λ_=>
  .ret (decide (0<=n)&&cg (xs.length+n.toNat) te.bytes&&decide (n<=9223372036854775807), .own tz,oc b++[(c_ tz, .o (.row e ex (xs++aN te.ks n.toNat)))])else .fail
 |_,_=> .fail
def RT(E:fU)(e:aE)(x:AV):Rd (aC (aE×eO)):=
 match x with
 | .own nm=>(jH nm).bind λ
  | .row e' ex xs=>(sI E e).bind λte=>bif bD e e'&&plain te.ks then .ret [(c_ nm, .o (.row e' ex (aN te.ks xs.length)))]else .fail
  |_=> .fail
 | .vw nm lo hi=>(jH nm).bind λ
  | .row e' ex xs=>(sI E e).bind λte=>bif bD e e'&&plain te.ks then .ret [(c_ nm, .o (.row e' ex (xs.take lo++aN te.ks (hi-lo)++xs.drop hi)))]else .fail
  |_=> .fail
 | .nl=> .ret []
 |_=> .fail
def im(mx:aW)(a b:ax):ax:=bif mx then(if b>a then b else a)else(if b<a then b else a)
def xG(mx:aW):aC dx->nc->ax->Rd AV
 |[],k,a=> .ret (.i k a)
 |x::r,k,a=>(Ct x).bind λ(_,b)=>xG mx r k (im mx a b)
end Go.FG

namespace Go.FG
inductive Src where
 |own (nm e:aE) (ex:aW)|no
structure Pk where
 a:AA
 src:Src
 rd:aC aE
def z5(E:fU)(mt:aW)(a:AV):Rd Pk:=
 match a with
 | .i k n=> .ret ⟨.i k n, .no,[]⟩| .b x=> .ret ⟨.b x, .no,[]⟩| .s x=> .ret ⟨.s x, .no,[]⟩
 | .sh e xs=> .ret ⟨.sh e xs, .no,[]⟩
 | .nl=> .ret ⟨.nl, .no,[]⟩
 | .fn f iQ=> .ret ⟨.fn f iQ, .no,[]⟩
 | .own nm=>(jH nm).bind λ
  | .row e ex xs=>bif mt then .ret ⟨.ow e ex xs, .own nm e ex,[]⟩else .ret ⟨.sh e xs, .no,[nm]⟩
  | .fV e xs=> .ret ⟨.sh e xs, .no,[]⟩
  |_=> .fail
 | .vw nm lo hi=>bif mt then .fail else(jH nm).bind λ
  | .row e _ xs=> .ret ⟨.sh e (eW xs lo hi), .no,[nm]⟩
  | .fV e xs=> .ret ⟨.sh e (eW xs lo hi), .no,[]⟩
  |_=> .fail
 | .inn nm i j=>(jH nm).bind λ
  | .row e ai xs=>(sI E e).bind λte=>match te.ks[j]? with
   |some (.l e2)=>(sI E e2).bind λt2=>bif plain t2.ks&& !mt then .ret ⟨.sh e2 (iR (ar xs i j)), .no,[nm]⟩else .fail
   |_=> .fail
  |_=> .fail
 |_=> .fail
def CB(E:fU)(mt:aW):aC AV->Rd (aC Pk)
 |[]=> .ret []
 |a::r=>(z5 E mt a).bind λp=>(CB E mt r).bind λl=> .ret (p::l)
structure Pa where
 arg:fa
 box:az (aE×aC AV)
 cs:aC Pk
def adU(E:fU)(mt:aW)(x:SV):Rd Pa:=
 match x with
 | .v ak [.bp nm 0]=>bif mt then(jH nm).bind λ
   | .box xs=>(CB E ai xs).bind λl=> .ret ⟨.pt (l.map (·.a)),ah (nm,xs),l⟩
   |_=> .fail
  else .fail
 | .v agg xs=>(CB E mt xs).bind λl=> .ret ⟨.v agg (l.map (·.a)),aj,l⟩
 |_=> .fail
def YC:Ck->AV->AV
 | .l e, .nl=> .sh e []
 |_,a=>a
def Co:aC Ck->aC AV->aC AV
 |k::ks,a::r=>YC k a::Co ks r
 |_,r=>r
def nlz(E:Tab)(t:az aE)(v:SV):SV:=
 match t with
 |none=>v
 |some t=>match E.ty t,v with
  |some ti, .v g xs=> .v g (Co ti.ks xs)
  |_,v=>v
def RH(E:fU)(f:aE)(P_:az (aC aE)):aE->aC dx->Rd (aC Pa)
 |_,[]=> .ret []
 |p,x::r=>(GZ x).bind λv=>(adU E (E.mode f p) (bif E.mode f p then v else nlz E (match P_ with|some l=>l[p]? |none=>aj) v)).bind λa=>bif fK a.cs.length 100 then(RH E f P_ (p+1) r).bind λl=> .ret (a::l)else .fail
def Pk.um(p:Pk):aC aE:=match p.src with| .own nm _ _=>[nm]| .no=>[]
def Pa.um(p:Pa):aC aE:=(match p.box with|some (nm,_)=>[nm]|none=>[])++p.cs.flatMap (·.um)
def Pa.nC(p:Pa):aC aE:=p.cs.flatMap (·.rd)
def tB:aC aE->aW
 |[]=>ai|n::r=> !mF n r&&tB r
def ry:aC aE->aC aE->aW
 |[],_=>ai|n::r,l=> !mF n l&&ry r l
def rB(ok:aW)(nm:aE)(a:AA):Rd (AV×aC (aE×eO)):=
 match a with
 | .i k n=> .ret (.i k n,[])| .b x=> .ret (.b x,[])| .s x=> .ret (.s x,[])| .nl=> .ret (.nl,[])
 | .sh e xs=>bif ok then .ret (.sh e xs,[])else .fail
 | .ow e ex xs=>bif ex||ok then(fresh nm).bind λ_=> .ret (.own nm,[(c_ nm, .o (.row e ex xs))])else .fail
 |_=> .fail
def A0(ok:aW):aE->aC AA->Rd (aC AV×aC (aE×eO))
 |_,[]=> .ret ([],[])
 |nm,a::r=>(rB ok nm a).bind λ(v,w)=>(A0 ok (nm+1) r).bind λ(vs,ws)=> .ret (v::vs,w++ws)
def Gk(ok:aW)(nm:aE)(a:fa):Rd ((aW×aC AV)×aC (aE×eO)):=
 match a with
 | .v agg xs=>(A0 ok nm xs).bind λ(vs,ws)=> .ret ((agg,vs),ws)
 | .pt xs=>(A0 ok nm xs).bind λ(vs,ws)=>(fresh (nm+30)).bind λ_=> .ret ((ak,[.bp (nm+30) 0]),ws++[(c_ (nm+30), .o (.box vs))])
 | .fb _=> .fail
def BO(ok:aW):aE->aC fa->Rd (aC (aW×aC AV)×aC (aE×eO))
 |_,[]=> .ret ([],[])
 |nm,a::r=>(Gk ok nm a).bind λ(v,w)=>(BO ok (nm+40) r).bind λ(vs,ws)=> .ret (v::vs,w++ws)
def EM(ok:aW)(p:Pk)(a:AA):Rd (aC (aE×eO)):=
 match p.src,a with
 | .no,_=> .ret []
 | .own nm e ex, .kp xs=>bif ex||ok then .ret [(c_ nm, .o (.row e ex xs))]else .fail
 | .own nm _ _, .nl=> .ret [(c_ nm, .o .dead)]
 |_,_=> .fail
def Lh(ok:aW):aC Pk->aC AA->Rd (aC (aE×eO))
 |[],_=> .ret []
 |p::r,l=>(EM ok p (l.headD .nl)).bind λw=>(Lh ok r l.tail).bind λws=> .ret (w++ws)
def Cw(ok:aW)(nm:aE)(p:Pk)(v:AV)(a:AA):Rd (AV×aC (aE×eO)):=
 match p.src,a with
 | .own n e ex, .kp xs=>bif ex||ok then .ret (v,[(c_ n, .o (.row e ex xs))])else .fail
 | .own n _ _,a=>(rB ok nm a).bind λ(v,w)=> .ret (v,(c_ n, .o .dead)::w)
 | .no,a=>rB ok nm a
def rK(ok:aW):aE->aC Pk->aC AV->aC AA->Rd (aC AV×aC (aE×eO))
 |_,[],[],[]=> .ret ([],[])
 |nm,p::ps,v::vs,a::as=>(Cw ok nm p v a).bind λ(v,w)=>(rK ok (nm+1) ps vs as).bind λ(vs,ws)=> .ret (v::vs,w++ws)
 |_,_,_,_=> .fail
def T2(ok:aW)(nm:aE)(p:Pa)(l:aC AA):Rd (aC (aE×eO)):=
 match p.box with
 |some (n,vs)=>(rK ok nm p.cs vs l).bind λ(vs,ws)=> .ret (ws++[(c_ n, .o (.box vs))])
 |none=>Lh ok p.cs l
def Lf(ok:aW):aE->aC Pa->aC (aC AA)->Rd (aC (aE×eO))
 |_,[],_=> .ret []
 |nm,p::r,l=>(T2 ok nm p (l.headD [])).bind λw=>(Lf ok (nm+40) r l.tail).bind λws=> .ret (w++ws)
def sb:aC (aW×aC AV)->SV
 |[(agg,xs)]=> .v agg xs
 |l=> .j9 l
def np:fa->aE| .v _ xs=>xs.length| .pt xs=>xs.length| .fb _=>0
def R_:aC aE->Rd (aC (aE×eO))
 |[]=> .ret []
 |n::r=>(jH n).bind λ
  | .row e _ xs=>(R_ r).bind λws=> .ret ((c_ n, .o (.fV e xs))::ws)
  |_=> .fail
def Gn(E:fU)(nm:aE)(o:fA)(f:aE)(args:aC dx)(P_:az (aC aE))(iQ:aC (aC CV)):Rd sO:=
 (RH E f P_ 0 args).bind λps=>
  bif tB (ps.flatMap (·.um))&&ry (ps.flatMap (·.um)) (ps.flatMap (·.nC))then
   match E.call f (ps.map (·.arg)++iQ.map fa.fb)with
   |some (c,r)=>bif fK ps.length 400&&(r.rs.all λa=>fK (np a) 30)&&(r.outs.all λa=>fK a.length 100)then(R_ (bif E.tk nm then ps.flatMap (·.nC)else [])).bind λw0=>
    (Lf (E.tk nm||(ps.flatMap (·.nC)).isEmpty) (nm+400) ps r.outs).bind λw1=>(BO (E.tk nm||(ps.flatMap (·.nC)).isEmpty) (nm+1) r.rs).bind λ(vs,w2)=>
    bif tB ((w1++w2).map (·.1))then .ret ⟨c,w0++(w1++w2)++dw o (sb vs)⟩else .fail else .fail
   |none=> .fail
  else .fail
def Rd.or{α:Type}:Rd α->Rd α->Rd α
 | .ret a,_=> .ret a
 | .fail,y=>y
 | .get k f,y=> .get k λc=>(f c).or y
def MH(E:fU)(nm:aE)(o:fA)(f:aE)(args:aC dx)(P_:aC aE)(iQ:aC (aC CV)):Rd sO:=
 (Gn E nm o f args aj iQ).or (Gn E nm o f args (ah P_) iQ)
def Cd(E:fU)(o:fA)(f n i j:aE)(y:dx):Rd sO:=
 (Ct y).bind λ(k,m)=>(jH n).bind λ
  | .row e ai xs=>(sI E e).bind λte=>match te.ks[j]? with
   |some (.l e2)=>match E.call f [.v ak [.ow e2 ai (iR (ar xs i j))], .v ak [.i k m]]with
    |some (c,r)=>match r.rs,r.outs with
     |[.v ak [.i k2 m2]],[[.kp ys]]=> .ret ⟨c,(c_ n, .o (.row e ai (eA xs i j [.l e2 ys])))::dw o (.v ak [.i k2 m2])⟩
     |_,_=> .fail
    |none=> .fail
   |_=> .fail
  |_=> .fail
def RP:aC dx->Rd (aC (aC CV)×aC (aE×eO))
 |[]=> .ret ([],[])
 |x::r=>(rJ x).bind λ
  | .bp nm 0=>(jH nm).bind λ
   | .box xs=>(ad1 xs).bind λcs=>(RP r).bind λ(l,ws)=> .ret (cs::l,(c_ nm, .o (.nX cs))::ws)
   | .nX cs=>(RP r).bind λ(l,ws)=> .ret (cs::l,ws)
   |_=> .fail
  |_=> .fail
where ad1:aC AV->Rd (aC CV)
 |[]=> .ret []
 |a::r=>(ad1 r).bind λl=>match a with
  | .i k n=> .ret (.i k n::l)| .b x=> .ret (.b x::l)| .s x=> .ret (.s x::l)
  | .sh e xs=> .ret (.l e xs::l)
  |_=> .fail
def l_(E:fU)(nm:aE)(o:fA):Rd sO:=
 match o.op with
 | .move x| .assign x=>(GZ x).bind λv=>val o v
 | .nilCheck x=>(rJ x).bind λp=>match p with
  | .bp nm j=>val o (.v ak [.bp nm j])
  | .rp nm i j=>val o (.v ak [.rp nm i j])
  |_=> .fail
 | .pick c a b=>(rJ c).bind λc=>(GZ a).bind λa=>(GZ b).bind λb=>
  match c,a,b with
  | .b c, .v ak [.b p], .v ak [.b q]=>zJ o (.b (bif c then p else q))
  | .b c, .j9 [],b=> .ret ⟨!c,dw o b⟩
  | .b c,a, .j9 []=> .ret ⟨c,dw o a⟩
  |_,_,_=> .fail
 | .alloc t=>(sI E t).bind λti=>bif K9 ti.ks then(fresh nm).bind λ_=> .ret ⟨ai,(c_ nm, .o (.box (ti.ks.map CZ)))::dw o (.v ak [.bp nm 0])⟩else .fail
 | .box t x=>(GZ x).bind λ
  | .v _ xs=>(fresh nm).bind λ_=> .ret ⟨ai,(c_ nm, .o (.box xs))::dw o (.v ak [.bp nm 0])⟩
  |_=> .fail
 | .build t ps=>(sI E t).bind λti=>bif K9 ti.ks&&ti.agg then(G0 E t ps.toList).bind λl=>val o (.v ai (MW (ti.ks.map CZ) l))else .fail
 | .buildSlice t n ps=>(sI E t).bind λti=>match ti.agg,ti.ks with
  |false,[.l e]=>(sI E e).bind λte=>bif K9 te.ks then(MR ps.toList).bind λex=>(Ko (ex&&flat E te.ks) te.ks ps.toList (aN te.ks n)).bind λ(xs,w)=>(fresh nm).bind λ_=>
   .ret ⟨fK (n*te.ks.length) 16777216&&tB (w.map (·.1)),w++(c_ nm, .o (.row e (ex&&flat E te.ks) xs))::dw o (.v ak [.own nm])⟩else .fail
  |_,_=> .fail
 | .load t p=>(sI E t).bind λti=>(rJ p).bind λp=>(tv E ti p).bind λxs=>val o (.v ti.agg xs)
 | .store t p x=>(sI E t).bind λti=>(rJ p).bind λp=>(GZ x).bind λ
  | .v _ ys=>bif bD ys.length ti.ks.length then(Vd E p ys).bind λw=> .ret ⟨ai,w++dw o .un⟩else .fail
  |_=> .fail
 | .fieldAddr t p f=>(rJ p).bind λp=>(R2 E t f p).bind λq=>zJ o q
 | .field t x f=>(GZ x).bind λ
  | .v ai xs=>match E.fo t f with
   |some (j,n)=>bif E.R7 t f&&bD n 1 then(match xs.drop j with|a::_=>zJ o a|[]=> .fail)else .fail
   |none=> .fail
  |_=> .fail
 | .indexAddr t x i=>(pP E t).bind λ
  | .l e=>(rJ x).bind λx=>(Ct i).bind λ(_,n)=>(Sy E e x n).bind λ(c,q)=>LH o c q
  |_=> .fail
 | .index t x i=>(pP E t).bind λk=>(rJ x).bind λx=>(Ct i).bind λ(_,n)=>match k,x with
  | .s, .s a=>LH o (decide (0<=n)&&decide (n<(a.size:ax))) (.i .u8 ((a.data.getD n.toNat 0).toNat:ax))
  |_,_=> .fail
 | .binOp op t x y _=>(GZ x).bind λx=>(GZ y).bind λy=>(adZ E t op x y).bind λ(c,v)=>LH o c v
 | .unOp op _ x=>(rJ x).bind λx=>match op,x with
  | .not, .b x=>zJ o (.b (!x))
  | .neg, .i k n=>zJ o (.i k (k.wrap (0-n)))
  |_,_=> .fail
 | .convert src dst x=>(pP E src).bind λks=>(pP E dst).bind λkd=>(rJ x).bind λx=>match kd,ks,x with
  | .i k, .i _, .i _ n=>zJ o (.i k (k.wrap n))
  | .s, .s, .s a=>zJ o (.s a)
  | .s, .l e', .nl=>(sI E e').bind λte=>bif u8s te.ks&& !te.agg then zJ o (.s ⟨#[]⟩)else .fail
  | .s, .l e',a=>(mz E a).bind λ(e,xs)=>(sI E e).bind λte=>bif bD e e'&&u8s te.ks&& !te.agg then LH o (decide (xs.length<=4611686018427387904)) (.s (bytesOf xs))else .fail
  |_,_,_=> .fail
 | .makeSlice t l c=>(Ct l).bind λ(_,n)=>(Ct c).bind λ(_,m)=>(sI E t).bind λti=>match ti.agg,ti.ks with
  |false,[.l e]=>(sI E e).bind λte=>bif K9 te.ks&&flat E te.ks then(fresh (bif plain te.ks then nm else nm+999)).bind λ_=> .ret ⟨decide (0<=n)&&decide (n=m)&&cg n.toNat te.bytes,(c_ (bif plain te.ks then nm else nm+999), .o (.row e ai (aN te.ks n.toNat)))::dw o (.v ak [.own (bif plain te.ks then nm else nm+999)])⟩else .fail
  |_,_=> .fail
 | .slice t x lo hi mx=>match mx with
  |some _=> .fail
  |none=>(pP E t).bind λk=>(rJ x).bind λx=>(Lt E k x lo hi).bind λ(c,v)=>LH o c v
 | .extract x i=>(GZ x).bind λ
  | .j9 l=>match l[i]? with|some (agg,xs)=>val o (.v agg xs)|none=> .fail
  |_=> .fail
 | .makeFunc (.func f) first iQ=>bif first.isEmpty then(RP iQ.toList).bind λ(l,ws)=> .ret ⟨ai,ws++dw o (.v ak [.fn f l])⟩else .fail
 | .call c=>match c.callee with
  | .builtin .len=>match c.args.toList,c.argTypes.toList with
   |[x],[t]=>(pP E t).bind λk=>(rJ x).bind λx=>(ae5 E k x).bind λn=>zJ o (.i .i64 n)
   |_,_=> .fail
  | .builtin .cap=>match c.args.toList,c.argTypes.toList with
   |[x],[t]=>(pP E t).bind λ| .l _=>((rJ x).bind λ| .nl=>zJ o (.i .i64 0)|_=> .fail)|_=> .fail
   |_,_=> .fail
  | .builtin .min=>match c.args.toList with
   |x::r=>(Ct x).bind λ(k,n)=>(xG ak r k n).bind λv=>zJ o v
   |_=> .fail
  | .builtin .max=>match c.args.toList with
   |x::r=>(Ct x).bind λ(k,n)=>(xG ai r k n).bind λv=>zJ o v
   |_=> .fail
  | .builtin .clear=>match c.args.toList with
   |[x]=>match c.argTypes.toList with
    |[t]=>(pP E t).bind λ| .l e=>((rJ x).bind λx=>(RT E e x).bind λw=> .ret ⟨ai,w++dw o (.j9 [])⟩)|_=> .fail
    |_=> .fail
   |_=> .fail
  | .builtin .append=>match c.args.toList,c.argTypes.toList with
   |[s,x],[t,u]=>(pP E u).bind λku=>(rJ s).bind λs=>(rJ x).bind λx=>match ku,x with
    | .i _, .i _ n=>(Vu E nm t s n).bind λ(b,v,w)=> .ret ⟨b,w++dw o (.v ak [v])⟩
    | .l _,x=>(Gh E nm t s x).bind λ(b,v,w)=> .ret ⟨b,w++dw o (.v ak [v])⟩
    | .s,x=>(Gh E nm t s x).bind λ(b,v,w)=> .ret ⟨b,w++dw o (.v ak [v])⟩
    |_,_=> .fail
   |_,_=> .fail
  | .value f=>(rJ f).bind λ
   | .fn f iQ=>match c.args.toList,iQ with
    |[x,y],[]=>(GZ x).bind λ
     | .v ak [.inn n i j]=>bif E.mode f 0 then Cd E o f n i j y else MH E nm o f c.args.toList c.argTypes.toList iQ
     |_=>MH E nm o f c.args.toList c.argTypes.toList iQ
    |_,_=>MH E nm o f c.args.toList c.argTypes.toList iQ
   |_=> .fail
  |_=> .fail
 |_=> .fail
inductive Ex where
 |normal|exit (id:aE)|ret
structure Lg where
 rs:aC aE
 ws:aC aE
def M1{R:Type}(a:AV)(f:AV->R):R:=
 match a with
 | .i k n=>f (.i k n)| .b x=>f (.b x)| .s x=>f (.s x)| .sh e xs=>f (.sh e xs)| .nl=>f .nl| .own n=>f (.own n)| .vw n lo hi=>f (.vw n lo hi)
 | .bp n j=>f (.bp n j)| .rp n i j=>f (.rp n i j)| .sp e xs i j=>f (.sp e xs i j)| .inn n i j=>f (.inn n i j)| .ip n i j i2 j2=>f (.ip n i j i2 j2)| .fn g iQ=>f (.fn g iQ)| .fp xs j=>f (.fp xs j)
def Gu{R:Type}(a:aW)(f:aW->R):R:=match a with|true=>f ai|false=>f ak
def pb{R:Type}:aC AV->(aC AV->R)->R
 |[],f=>f []|a::r,f=>M1 a λa=>pb r λr=>f (a::r)
def Gw{R:Type}:aC (aW×aC AV)->(aC (aW×aC AV)->R)->R
 |[],f=>f []|(g,xs)::r,f=>Gu g λg=>pb xs λxs=>Gw r λr=>f ((g,xs)::r)
def Gv{R:Type}(v:SV)(f:SV->R):R:=
 match v with
 | .v g xs=>Gu g λg=>pb xs λxs=>f (.v g xs)| .j9 l=>Gw l λl=>f (.j9 l)| .un=>f .un
def KB{R:Type}(o:Obj)(f:Obj->R):R:=
 match o with
 | .box xs=>pb xs λxs=>f (.box xs)| .nX cs=>f (.nX cs)| .row e ex xs=>Gu ex λex=>f (.row e ex xs)| .fV e xs=>f (.fV e xs)| .dead=>f .dead
def KA{R:Type}(c:eO)(f:eO->R):R:=
 match c with
 | .v x=>Gv x λx=>f (.v x)| .o x=>KB x λx=>f (.o x)| .jX=>f .jX
def B6{R:Type}:aC (aE×eO)->(aC (aE×eO)->R)->R
 |[],f=>f []|(k,c)::r,f=>KA c λc=>B6 r λr=>f ((k,c)::r)
theorem Kz{R:Type}(a:AV)(f:AV->R):M1 a f=f a:=by cases a<;>rfl
theorem zk{R:Type}(a:aW)(f:aW->R):Gu a f=f a:=by cases a<;>rfl
theorem nM{R:Type}:∀(l:aC AV) (f:aC AV->R),pb l f=f l
 |[],_=>rfl
 |a::r,f=>by simp only[pb,Kz,nM r]
theorem Et{R:Type}:∀(l:aC (aW×aC AV)) (f:aC (aW×aC AV)->R),Gw l f=f l
 |[],_=>rfl
 |(g,xs)::r,f=>by simp only[Gw,zk,nM,Et r]
theorem KC{R:Type}(v:SV)(f:SV->R):Gv v f=f v:=by cases v<;>simp only[Gv,zk,nM,Et]
theorem OH{R:Type}(v:Obj)(f:Obj->R):KB v f=f v:=by cases v<;>simp only[KB,zk,nM]
theorem OG{R:Type}(v:eO)(f:eO->R):KA v f=f v:=by cases v<;>simp only[KA,KC,OH]
theorem Eu{R:Type}:∀(l:aC (aE×eO)) (f:aC (aE×eO)->R),B6 l f=f l
 |[],_=>rfl
 |(k,c)::r,f=>by simp only[B6,OG,Eu r]
def ops{R:Type}(E:fU)(all:dq fA)(n6:aE):aE->aC fA->St->aC Lg->(St->aC Lg->az R)->az R
 |_,[],σ,lg,K=>K σ lg
 |i,o::rest,σ,lg,K=>match o.guard with
  |none=>match (l_ E ((n6+1)*1000000+i*1000) o).run σ []with
   |some (e,l)=>bif e.cond then B6 e.ws (λws=>ops E all n6 (i+1) rest (wr σ ws) (⟨l,ws.map (·.1)⟩::lg) K)else aj
   |none=>aj
  |some (g,want)=>match (all.getD g default).dst with
   |none=>aj
   |some d=>match σ (qg d)with
    | .v (.v ak [.b x])=>
     let perform:=λy=>match (l_ E ((n6+1)*1000000+i*1000) o).run (pG σ (qg d) (.v (.v ak [.b y]))) []with
      |some (e,l)=>bif e.cond then B6 e.ws (λws=>ops E all n6 (i+1) rest (wr (pG σ (qg d) (.v (.v ak [.b y]))) ws) (⟨qg d::l,ws.map (·.1)⟩::lg) K)else aj
      |none=>aj
     let skip:=λy=>ops E all n6 (i+1) rest (wr (pG σ (qg d) (.v (.v ak [.b y]))) (dw o (.j9 []))) (⟨[qg d],(dw o (.j9 [])).map (·.1)⟩::lg) K
     bif x then(bif want then perform ai else skip ai)else(bif want then skip ak else perform ak)
    | .v (.j9 [])=>ops E all n6 (i+1) rest (wr σ (dw o (.j9 []))) (⟨[qg d],(dw o (.j9 [])).map (·.1)⟩::lg) K
    |_=>aj
def ddA(acc:aC aE):aC aE->aC aE
 |[]=>acc|n::r=>bif mF n acc then ddA acc r else ddA (n::acc) r
def mQ{R:Type}:aC aE->(aC aE->R)->R
 |[],f=>f []|n::r,f=>mQ r λr=>f (n::r)
def Bb{R:Type}:aC (aC aE)->(aC (aC aE)->R)->R
 |[],f=>f []|n::r,f=>mQ n λn=>Bb r λr=>f (n::r)
theorem oM{R:Type}:∀(l:aC aE) (f:aC aE->R),mQ l f=f l
 |[],_=>rfl
 |n::r,f=>by simp only[mQ,oM r]
theorem B5{R:Type}:∀(l:aC (aC aE)) (f:aC (aC aE)->R),Bb l f=f l
 |[],_=>rfl
 |n::r,f=>by simp only[Bb,oM,B5 r]
theorem Gp:∀(l acc:aC aE) (x:aE),x∈ddA acc l->x∈acc\/x∈l
 |[],_,_,h=> .inl h
 |n::r,acc,x,h=>by
  unfold ddA at h;cases hb:mF n acc with
  |true=>
   rw[hb]at h;rcases Gp r acc x h with h|h
   ·exact .inl h
   ·exact .inr (c7 _ h)
  |false=>
   rw[hb]at h;rcases Gp r (n::acc) x h with h|h
   ·rcases cu.1 h with rfl|h
    ·exact .inr dL
    ·exact .inl h
   ·exact .inr (c7 _ h)
def Gg:aC (aC aE)->aC fA->aC (aC aE)
 |acc,[]=>acc
 |acc,o::r=>mQ (ddA [] (o.after.toList.flatMap λe=>bif mK .any e then e.on::acc.getD e.on []else [])) λx=>Gg (acc++[x]) r
def Jf:aE->aC fA->aW
 |_,[]=>ai
 |i,o::r=>(o.after.toList.all λe=> !Region.binds .any e||Nat.blt e.on i)&&Jf (i+1) r
def BT(a b:Lg):aW:= !(ry a.ws b.ws&&ry a.ws b.rs&&ry b.ws a.rs)
def A3(an:aC aE)(j:aE)(a:Lg):aE->aC Lg->aW
 |_,[]=>ai
 |i,b::r=>(mF i an|| !BT a b)&&A3 an j a (i+1) r
def calm:aE->aC (aC aE)->aC Lg->aC Lg->aW
 |_,_,_,[]=>ai
 |j,an,done,a::r=>A3 (an.getD j []) j a 0 done&&calm (j+1) an (done++[a]) r
def Ba{R:Type}:aC Lg->(aC Lg->R)->R
 |[],f=>f []|a::r,f=>mQ a.rs λrs=>mQ a.ws λws=>Ba r λr=>f (⟨rs,ws⟩::r)
theorem B4{R:Type}:∀(l:aC Lg) (f:aC Lg->R),Ba l f=f l
 |[],_=>rfl
 |n::r,f=>by simp only[Ba,oM,B4 r]
def MI(an:aC (aC aE))(l:aC Lg):aW:=Bb an λan=>Ba l λl=>calm 0 an [] l
theorem RO(an:aC (aC aE))(l:aC Lg):MI an l=calm 0 an [] l:=by simp only[MI,B5,B4]
def bN:AV->aC aE
 | .own n=>[n]| .vw n _ _=>[n]| .bp n _=>[n]| .rp n _ _=>[n]| .inn n _ _=>[n]| .ip n _ _ _ _=>[n]|_=>[]
def cJ:SV->aC aE
 | .v _ xs=>xs.flatMap bN| .j9 l=>l.flatMap λ(_,xs)=>xs.flatMap bN| .un=>[]
def Wv:aC aE->aC aE->aC aE
 |l,[]=>l
 |l,n::r=>mQ (bif mF n l then l else l++[n]) λl=>Wv l r
def slot(σ:St)(n:aE):SV:=match σ (qg n)with| .v x=>x|_=> .un
def ajv(σ:St)(nm:aE):aC aE:=match σ (c_ nm)with| .o (.box xs)=>xs.flatMap bN|_=>[]
def idx(n:aE):aE->aC aE->az aE
 |_,[]=>aj|i,m::r=>bif bD n m then ah i else idx n (i+1) r
def enc(f:aW)(k:aE):aE:=bif f then k*1000+999 else k
def v9(l:aC aE)(n:aE):az aE:=bif fK 900000000 n then(bif mF n l then ah n else aj)else(match idx n 0 l with|some k=>ah (enc (zo n) k)|none=>aj)
def pS(l:aC aE)(a:AV):AV:=
 match a with
 | .own n=>match v9 l n with|some k=> .own k|none=> .nl
 | .vw n lo hi=>match v9 l n with|some k=> .vw k lo hi|none=> .nl
 | .bp n j=>match v9 l n with|some k=> .bp k j|none=> .nl
 | .rp n i j=>match v9 l n with|some k=> .rp k i j|none=> .nl
 | .inn n i j=>match v9 l n with|some k=> .inn k i j|none=> .nl
 | .ip n i j i2 j2=>match v9 l n with|some k=> .ip k i j i2 j2|none=> .nl
 |a=>a
def zq(l:aC aE)(ns:aC aE):aW:=ns.all λn=>mF n l
def EP(l:aC aE)(v:SV):SV:=
 bif zq l (cJ v)then(match v with
 | .v agg xs=> .v agg (xs.map (pS l))| .j9 r=> .j9 (r.map λ(g,xs)=>(g,xs.map (pS l)))| .un=> .un)else .un
def Pv(l:aC aE)(o:eO):eO:=
 match o with
 | .o (.box xs)=>bif zq l (xs.flatMap bN)then .o (.box (xs.map (pS l)))else .o .dead
 | .o x=> .o x
 |_=> .o .dead
def fO:aC (aE×eO)->St
 |[],_=> .jX
 |(k,c)::r,n=>bif bD n k then c else fO r n
def v7(σ:St)(l:aC aE):aC aE->aC (aE×eO)
 |[]=>[]|n::r=>match v9 l n with|some k=>(c_ k,Pv l (σ (c_ n)))::v7 σ l r|none=>v7 σ l r
def Kj(keep:aC aE)(σ:St):aC aE:=
 mQ (Wv [] (keep.flatMap λn=>cJ (slot σ n))) λl0=>mQ (Wv l0 (l0.flatMap (ajv σ))) λl1=>Wv l1 (l1.flatMap (ajv σ))
def Ki(keep:aC aE)(σ:St)(l:aC aE):aC (aE×eO):=
 bif fK l.length 900 then keep.map (λn=>(qg n, .v (EP l (slot σ n))))++v7 σ l l else []
def Xq(x:aE):aW:=fK 1000000000000000 x
def abb(x:aE):aE:=(x/1000000)%1000000000
def SS(x:aE):aE:=(x/1000)%1000
def kTy(x:aE):aE:=x%1000
def kNm(x:aE):aE:=800000000+((x/1000)%1000000)*100
def zZ{α:Type}(x:aE)(σ:St)(f:St->α):α:=
 match slot σ (abb x)with
 | .v ak [.bp nm 0]=>match σ (c_ nm),σ (c_ (kNm x))with
  | .o (.box xs), .jX=>match xs[SS x]? with
   |some .nl=>pb (xs.set (SS x) (.own (kNm x))) λys=>f (pG (pG σ (c_ nm) (.o (.box ys))) (c_ (kNm x)) (.o (.row (kTy x) ai [])))
   |_=>f σ
  |_,_=>f σ
 |_=>f σ
def Nm{α:Type}:aC aE->St->(St->α)->α
 |[],σ,f=>f σ
 |x::r,σ,f=>bif Xq x then zZ x σ (λσ=>Nm r σ f)else Nm r σ f
def Kk(keep:aC aE)(σ:St):aC (aE×eO):=Nm keep σ λσ=>mQ (keep.filter λx=> !Xq x) λkeep=>mQ (Kj keep σ) λl=>Ki keep σ l
def canon(keep:aC aE)(σ:St):St:=fO (Kk keep σ)
def fU.zX(E:fU)(n:aE):aC aE:=(E.keep n).filter λx=>bif Xq x then(match E.ty (kTy x)with|some _=>ai|none=>ak)else ai
def gE:Code->aE
 | .region id _ _=>id| .seq a _=>gE a| .block _ c=>gE c| .scope c=>gE c|_=>0
def ED{R:Type}(g:St->az R)(cn:St->St)(K:Ex->St->az R):Ex->St->az R
 | .normal,σ=>g (cn σ)
 |e,σ=>K e (cn σ)
def iter{R:Type}(f:St->(Ex->St->az R)->az R)(cn:St->St):aE->St->(Ex->St->az R)->az R
 |0,_,_=>aj
 |n+1,σ,K=>f σ (ED (λs=>iter f cn n s K) cn K)
theorem O0{R:Type}(f:St->(Ex->St->az R)->az R)(cn:St->St)(n:aE)(σ:St)(K:Ex->St->az R):iter f cn (n+1) σ K=f σ (ED (λs=>iter f cn n s K) cn K):=rfl
abbrev It(R:Type):=aE->(St->(Ex->St->az R)->az R)->(St->St)->aC (aE×eO)->(Ex->St->az R)->az R
def awn{R:Type}(n:aE):It R:=λ_ f cn L K=>iter f cn n (fO L) K
def avg{R:Type}(f:St->(Ex->St->az R)->az R)(K:Ex->St->az R):Ex->St->az R
 | .normal,σ=>f σ K
 |e,σ=>K e σ
def aq1{R:Type}(id:aE)(K:Ex->St->az R):Ex->St->az R
 | .exit j,σ=>bif bD j id then K .normal σ else K (.exit j) σ
 |e,σ=>K e σ
def tc{R:Type}(E:fU)(it:It R):Code->St->(Ex->St->az R)->az R
 | .skip,σ,K=>K .normal σ
 | .region id os draw,σ,K=>ops E os id 0 os.toList σ [] λσ lg=>bif !draw||(Jf 0 os.toList&&MI (Gg [] os.toList) lg.reverse)then K .normal σ else aj
 | .seq a b,σ,K=>tc E it a σ (avg (tc E it b) K)
 | .cond c a b,σ,K=>match c with
  | .tmp t=>match σ (qg t)with
   | .v (.v ak [.b x])=>bif x then(tc E it a (pG σ (qg t) (.v (.v ak [.b ai]))) K)else(tc E it b (pG σ (qg t) (.v (.v ak [.b ak]))) K)
   |_=>aj
  |_=>aj
 | .block id c,σ,K=>tc E it c σ (aq1 id K)
 | .loop c,σ,K=>it (gE c) (tc E it c) (canon (E.zX (gE c))) (Kk (E.zX (gE c)) σ) K
 | .exit id,σ,K=>K (.exit id) σ
 | .ret,σ,K=>K .ret σ
 |_,_,_=>aj
def jS:Code->aC Code
 | .seq a b=>jS a++jS b
 | .cond _ a b=>jS a++jS b
 | .block _ c=>jS c
 | .loop c=>c::jS c
 |_=>[]
def Ce(n6:aE):Code->az Code
 | .seq a b=>match Ce n6 a with|some r=>ah r|none=>Ce n6 b
 | .cond _ a b=>match Ce n6 a with|some r=>ah r|none=>Ce n6 b
 | .block _ c=>Ce n6 c
 | .loop c=>bif bD (gE c) n6 then ah c else Ce n6 c
 |_=>aj
def bU(F:Func)(n6:aE):Code:=((F.body.bind (Ce n6)).getD .skip)
end Go.FG

namespace Go.FG
def dU(p j:aE):aE:=900000000+p*1000+j
def lu(nm:aE)(a:AA):AV:=
 match a with
 | .i k n=> .i k n| .b x=> .b x| .s x=> .s x| .sh e xs=> .sh e xs| .nl=> .nl
 | .ow _ _ _=> .own nm| .kp _=> .nl| .fn f iQ=> .fn f iQ
def EC(nm:aE)(a:AA):aC (aE×eO):=match a with| .ow e ex xs=>[(c_ nm, .o (.row e ex xs))]|_=>[]
def gA(nm:aE):aC AA->aC AV
 |[]=>[]|a::r=>lu nm a::gA (nm+1) r
def tp(nm:aE):aC AA->aC (aE×eO)
 |[]=>[]|a::r=>EC nm a++tp (nm+1) r
def tq(p:aE)(a:fa):SV:=
 match a with
 | .v agg xs=> .v agg (gA (dU p 0) xs)
 | .pt _=> .v ak [.bp (dU p 900) 0]
 | .fb xs=> .v ak [.fp xs 0]
def vh(p:aE)(a:fa):aC (aE×eO):=
 match a with
 | .v _ xs=>tp (dU p 0) xs
 | .pt xs=>(c_ (dU p 900), .o (.box (gA (dU p 0) xs)))::tp (dU p 0) xs
 | .fb _=>[]
def KV:aE->aC fa->aC (aE×eO)
 |_,[]=>[]|p,a::r=>(qg p, .v (tq p a))::vh p a++KV (p+1) r
def inj(args:aC fa):St:=fO (KV 0 args)
def zV(E:fU)(e:aE):aW:=match E.ty e with|some _=>ai|none=>ak
def zU(E:fU)(om:Om)(σ:St)(k:Ck)(a:AV):az (AA×aC aE×aC aE):=
 match a with
 | .i k n=>ah (.i k n,[],[])| .b x=>ah (.b x,[],[])| .s x=>ah (.s x,[],[])
 | .sh e xs=>match om with| .own _=>aj|_=>ah (.sh e xs,[],[])
 | .nl=>match om with
  | .own e=>bif zV E e then ah (.ow e ai [],[],[])else aj
  | .sh e=>ah (.sh e [],[],[])
  | .nat=>match k with| .l e=>bif zV E e then ah (.ow e ai [],[],[])else aj|_=>ah (.nl,[],[])
 | .own nm=>match σ (c_ nm)with
  | .o (.row e ex xs)=>match om with| .sh _=>ah (.sh e xs,[],[nm])|_=>ah (.ow e ex xs,[nm],[])
  | .o (.fV e xs)=>match om with| .own _=>aj|_=>ah (.sh e xs,[],[])
  |_=>aj
 | .vw nm lo hi=>match σ (c_ nm)with
  | .o (.row e ex xs)=>match om with| .sh _=>ah (.sh e (eW xs lo hi),[],[nm])|_=>ah (.ow e ex (eW xs lo hi),[nm],[])
  | .o (.fV e xs)=>match om with| .own _=>aj|_=>ah (.sh e (eW xs lo hi),[],[])
  |_=>aj
 |_=>aj
def td(E:fU)(q:aE)(σ:St):aE->aC Ck->aC AV->az (aC AA×aC aE×aC aE)
 |_,_,[]=>ah ([],[],[])
 |j,ks,a::r=>match zU E (E.om q j) σ (ks.headD .o) a,td E q σ (j+1) ks.tail r with
  |some (x,l,m),ah (xs,ls,ms)=>ah (x::xs,l++ls,m++ms)
  |_,_=>aj
def MY(E:fU)(q:aE)(σ:St)(ks:aC Ck)(v:SV):az (fa×aC aE×aC aE):=
 match v with
 | .v ak [.bp nm 0]=>match σ (c_ nm)with
  | .o (.box xs)=>match td E q σ 0 [] xs with|some (l,ns,ms)=>ah (.pt l,nm::ns,ms)|none=>aj
  |_=>aj
 | .v agg xs=>match td E q σ 0 ks xs with|some (l,ns,ms)=>ah (.v agg l,ns,ms)|none=>aj
 |_=>aj
def Ul(E:fU)(q:aE)(σ:St)(r:ResultVar)(t:aE):az (fa×aC aE×aC aE):=
 match E.ty t with
 |none=>aj
 |some ti=>match r with
  | .tmp s=>MY E q σ ti.ks (slot σ s)
  | .cell a t'=>match E.ty t',slot σ a with
   |some Vh, .v ak [.bp nm 0]=>match σ (c_ nm)with| .o (.box xs)=>bif bD xs.length Vh.ks.length then MY E q σ ti.ks (.v Vh.agg xs)else aj|_=>aj
   |_,_=>aj
def CE(E:fU)(σ:St):aE->aC ResultVar->aC aE->az (aC fa×aC aE×aC aE)
 |_,[],_=>ah ([],[],[])
 |q,r::rs,ts=>match Ul E q σ r (ts.headD 0),CE E σ (q+1) rs ts.tail with
  |some (a,l,m),ah (as,ls,ms)=>ah (a::as,l++ls,m++ms)
  |_,_=>aj
def Jt(a b:aW):aW:=bif a then b else !b
def nr(σ:St)(tk:aC aE)(nm:aE)(a:AA):AA×aC aE:=
 match a with
 | .ow e ex _=>bif mF nm tk then(.nl,[])else(match σ (c_ nm)with| .o (.row e' uh xs)=>bif bD e e'&&Jt ex uh then(.kp xs,[nm])else(.nl,[])|_=>(.nl,[]))
 |_=>(.nl,[])
def pO(σ:St)(tk:aC aE)(nm:aE):aC AA->aC AA×aC aE
 |[]=>([],[])|a::r=>((nr σ tk nm a).1::(pO σ tk (nm+1) r).1,(nr σ tk nm a).2++(pO σ tk (nm+1) r).2)
def Z7(E:fU)(om:Om)(σ:St)(nm:aE)(b:AA)(a:AV):az (AA×aC aE×aC aE):=
 match om,b,a with
 | .nat, .ow e ex _, .own n=>bif bD n nm then(match σ (c_ n)with| .o (.row e' uh xs)=>bif bD e e'&&Jt ex uh then ah (.kp xs,[n],[])else aj|_=>aj)else zU E om σ .o a
 |_,_,a=>zU E om σ .o a
def Gl(E:fU)(q:aE)(σ:St):aE->aC AA->aC AV->az (aC AA×aC aE×aC aE)
 |_,_,[]=>ah ([],[],[])
 |j,bs,a::r=>match Z7 E (E.om q j) σ (dU q j) (bs.headD .nl) a,Gl E q σ (j+1) bs.tail r with
  |some (x,l,m),ah (xs,ls,ms)=>ah (x::xs,l++ls,m++ms)
  |_,_=>aj
def Sd:aC AA->aW
 |[]=>ak| .ow _ _ _::_=>ai|_::r=>Sd r
def Cy(E:fU)(σ:St)(tk:aC aE):aE->aC fa->az (aC (aC AA)×aC aE×aC aE)
 |_,[]=>ah ([],[],[])
 |p,a::r=>match Cy E σ tk (p+1) r with
  |none=>aj
  |some (l,ns,ms)=>match a with
   | .v _ xs=>bif Sd xs then ah ((pO σ tk (dU p 0) xs).1::l,(pO σ tk (dU p 0) xs).2++ns,ms)else ah ([]::l,ns,ms)
   | .pt xs=>match σ (c_ (dU p 900))with
    | .o (.box vs)=>match Gl E p σ 0 xs vs with|some (as,ns',ms')=>ah (as::l,dU p 900::(ns'++ns),ms'++ms)|none=>aj
    |_=>aj
   | .fb _=>ah ([]::l,ns,ms)
def ug:aC (aC AA)->aC (aC AA)
 |[]=>[]
 |x::r=>match x,ug r with|[],[]=>[]|x,r=>x::r
def fin(E:fU)(F:Func)(args:aC fa)(e:Ex)(σ:St):az dz:=
 match e with
 | .exit _=>aj
 |_=>match CE E σ 500 F.results.toList F.resultTypes.toList with
  |some (rs,tk,fz)=>match Cy E σ (tk++fz) 0 args with
   |some (outs,ns,ms)=>bif tB (tk++ns)&&ry (tk++ns) (fz++ms)&&fK args.length 500&&(args.all λa=>fK (np a) 100)&&(rs.all λa=>fK (np a) 100)&&(outs.all λa=>fK a.length 100)then ah ⟨rs,ug outs⟩else aj
   |none=>aj
  |none=>aj
def body(E:fU)(it:It dz)(F:Func)(args:aC fa):az dz:=
 match F.body with
 |some c=>tc E it c (inj args) (fin E F args)
 |none=>aj
end Go.FG

namespace Go.FG
structure Pl where
 nil:aW
 blk:aE
 off:aE
 cap:aE
 n:aE
 sz:aE
def lO(p:Pl):bj:=if p.nil=ai then .slice aj 0 0 else .slice (ah ⟨p.blk,p.off,aj⟩) p.n p.cap
def nQ(w:bK)(b:aE)(vals:dq bj):Prop:=
 ∃t fr,w.heap[b]? =ah (.cells vals t fr)/\∀o,o<=vals.size->(decide (fr.1<=o)&&decide (o<fr.2))=ak
def PF:CV->bj
 | .i k n=> .int k n| .b x=> .bool x| .s x=> .string x| .l _ _=> .nilIface
def DK(x:aq):Prop:=x.size<=4611686018427387904
def okC:CV->Prop
 | .s x=>DK x|_=>True
def Sc(u:bj)(x:CV):Prop:=u=PF x/\okC x
structure eZ where
 P:aE->Pl
 G:aE->aE->aE->Pl
 K:aE->Prop
abbrev ad(b o:aE):Addr:=⟨b,o,aj⟩
inductive da (E:Tab) (w:bK) (K:aE->Prop):bj->CV->Prop
 |i (k n):da E w K (.int k n) (.i k n)
 |b (x):da E w K (.bool x) (.b x)
 |s (x) (h:DK x):da E w K (.string x) (.s x)
 |nl (e A c):da E w K (.slice A 0 c) (.l e [])
 |l (e xs b o c ti) (U:aE->aE->bj) (ht:E.ty e=ah ti) (hc:xs.length<=c) (hm:c<=maxLen) (hK:K b) (hs:∀y∈xs,y.map CV.kd=ti.ks)
  (hcell:∀i j y x,xs[i]? =ah y->y[j]? =ah x->w.cell? (ad b (o+i*ti.ks.length+j))=ah (U i j))
  (gz:∀i j y x,xs[i]? =ah y->y[j]? =ah x->da E w K (U i j) x):da E w K (.slice (ah (ad b o)) xs.length c) (.l e xs)
theorem nQ.cell{w:bK}{b:aE}{vals:dq bj}(h:nQ w b vals)(o:aE):w.cell? (ad b o)=vals[o]? :=by obtain⟨t,fr,h,_⟩:=h;simp[World.cell?,h]
theorem nQ.lt{w:bK}{b:aE}{vals:dq bj}(h:nQ w b vals):b<w.heap.size:=by obtain⟨t,fr,h,_⟩:=h;exact(dV.1 h).1
theorem nQ.free{w:bK}{b:aE}{vals:dq bj}(h:nQ w b vals){o:aE}(ho:o<vals.size):w.frozen? (ad b o)=false:=by obtain⟨t,fr,h,hf⟩:=h;have:=hf o (Nat.le_of_lt ho);simpa [ZA,h]using this
theorem nQ.frame{w w':bK}{b:aE}{vals:dq bj}(h:nQ w b vals)(e:w'.heap[b]? =w.heap[b]?):nQ w' b vals:=by obtain⟨t,fr,h,hf⟩:=h;exact⟨t,fr,e.trans h,hf⟩
theorem da.frame{E:Tab}{w w':bK}{K K':aE->Prop}{v:bj}{x:CV}(h:da E w K v x)(hw:∀b,K b->w'.heap[b]? =w.heap[b]?)(hK:∀b,K b->K' b):da E w' K' v x:=by
 induction h with
 |i=>exact .i _ _
 |b=>exact .b _
 |s x h=>exact .s _ h
 |nl=>exact .nl _ _ _
 |l e xs b o c ti U ht hc hm hKb hs hcell gz ih=>exact .l e xs b o c ti U ht hc hm (hK b hKb) hs (λi j y x h1 h2=>(uG (a:=ad b _) (hw b hKb)).trans (hcell i j y x h1 h2)) (λi j y x h1 h2=>ih i j y x h1 h2)
structure jg (w:bK) (p:Pl) (xs:aQ) (R:aE->aE->bj->CV->Prop):Prop where
 n:p.n=xs.length
 nil:p.nil=ai->xs=[]/\p.cap=0
 mem:p.nil=ak->∃vals,nQ w p.blk vals/\p.n<=p.cap/\p.cap<=maxLen/\p.off+p.cap*p.sz<=vals.size/\
  ∀(i:aE) (y:aC CV) (j:aE) (x:CV),xs[i]? =ah y->y[j]? =ah x->∃u:bj,vals[p.off+i*p.sz+j]? =ah u/\R i j u x
def XC(E:Tab)(w:bK)(G:aE->aE->Pl)(i j:aE)(u:bj):CV->Prop
 | .l e ys=>u=lO (G i j)/\∃ti,E.ty e=ah ti/\plain ti.ks=ai/\(G i j).sz=ti.ks.length/\(∀y∈ys,y.map CV.kd=ti.ks)/\jg w (G i j) ys (λ_ _ u x=>Sc u x)
 |x=>Sc u x
def uj:CV->aW| .l _ _=>ai|_=>ak
def gm(xs:aQ)(i j:aE):Prop:=∃y x,xs[i]? =ah y/\y[j]? =ah x/\uj x=ai
structure Fh (p:Pl) (G:aE->aE->Pl) (xs:aQ):Prop where
 out:∀i j,gm xs i j->(G i j).nil=ak->p.nil=ak->(G i j).blk≠p.blk
 one:∀i j i' j',gm xs i j->gm xs i' j'->(G i j).nil=ak->(G i' j').nil=ak->(G i j).blk=(G i' j').blk->i=i'/\j=j'
structure Mn (E:Tab) (w:bK) (c:eZ) (nm e:aE) (ex:aW) (xs:aQ):Prop where
 sh:∃ti,E.ty e=ah ti/\(c.P nm).sz=ti.ks.length/\∀y∈xs,y.map CV.kd=ti.ks
 at_:jg w (c.P nm) xs (λi j u x=>if ex=ai then XC E w (c.G nm) i j u x else da E w c.K u x)
 inn:ex=ai->Fh (c.P nm) (c.G nm) xs
def FB(E:Tab)(w:bK)(K:aE->Prop)(b:aE)(cs:aC CV):Prop:=
 K b/\∀(q:aE) (x:CV),cs[q]? =ah x->∃u:bj,w.cell? (ad b q)=ah u/\da E w K u x
def wM(p:Pl)(lo hi:aE)(v:bj):Prop:=
 lo<=hi/\hi<=p.n/\(p.nil=ai->v= .slice aj 0 0)/\
 (p.nil=ak->(lo<p.cap/\v= .slice (ah (ad p.blk (p.off+lo*p.sz))) (hi-lo) (p.cap-lo))\/(lo=p.cap/\∃o,o<=p.off+p.cap*p.sz/\v= .slice (ah (ad p.blk o)) 0 0))
def eG(E:Tab)(w:bK)(c:eZ):AV->bj->Prop
 | .i k n,v=>v= .int k n
 | .b x,v=>v= .bool x
 | .s x,v=>v= .string x/\DK x
 | .sh e xs,v=>da E w c.K v (.l e xs)
 | .nl,v=>v= .slice aj 0 0
 | .own nm,v=>v=lO (c.P nm)
 | .vw nm lo hi,v=>wM (c.P nm) lo hi v
 | .bp nm j,v=>v= .pointer (ah (ad (c.P nm).blk j))
 | .rp nm i j,v=>i<(c.P nm).n/\v= .pointer (ah (ad (c.P nm).blk ((c.P nm).off+i*(c.P nm).sz+j)))
 | .sp e xs i j,v=>∃b o cp ti,da E w c.K (.slice (ah (ad b o)) xs.length cp) (.l e xs)/\i<xs.length/\E.ty e=ah ti/\v= .pointer (ah (ad b (o+i*ti.ks.length+j)))
 | .inn nm i j,v=>(i<(c.P nm).n/\v=lO (c.G nm i j))/\zo nm=ak
 | .ip nm i j i2 j2,v=>(i<(c.P nm).n/\i2<(c.G nm i j).n/\v= .pointer (ah (ad (c.G nm i j).blk ((c.G nm i j).off+i2*(c.G nm i j).sz+j2))))/\zo nm=ak
 | .fn f iQ,v=>∃ps:dq bj,v= .func (.func f) #[] ps/\ps.size=iQ.length/\∀(q:aE) (cs:aC CV),iQ[q]? =ah cs->∃b:aE,ps[q]? =ah (.pointer (ah (ad b 0)))/\FB E w c.K b cs
 | .fp cs j,v=>∃b,v= .pointer (ah (ad b j))/\FB E w c.K b cs
def qa(E:Tab)(w:bK)(c:eZ)(agg:aW)(xs:aC AV)(v:bj):Prop:=
 match agg,xs with
 |false,[a]=>eG E w c a v
 |true,xs=>∃vals:dq bj,v= .agg vals/\vals.size=xs.length/\∀(j:aE) (a:AV),xs[j]? =ah a->∃u:bj,vals[j]? =ah u/\eG E w c a u
 |_,_=>False
def jh(E:Tab)(w:bK)(c:eZ):SV->bj->Prop
 | .v agg xs,v=>qa E w c agg xs v
 | .j9 l,v=>∃vs:dq bj,v= .tuple vs/\vs.size=l.length/\∀(j:aE) (agg:aW) (xs:aC AV),l[j]? =ah (agg,xs)->∃u:bj,vs[j]? =ah u/\qa E w c agg xs u
 | .un,_=>True
def pJ(E:Tab)(w:bK)(c:eZ)(nm:aE):Obj->Prop
 | .box xs=>∃vals,nQ w (c.P nm).blk vals/\vals.size=xs.length/\∀(j:aE) (a:AV),xs[j]? =ah a->∃u:bj,vals[j]? =ah u/\eG E w c a u
 | .nX cs=>FB E w c.K (c.P nm).blk cs
 | .row e ex xs=>Mn E w c nm e ex xs
 | .fV e xs=>da E w c.K (lO (c.P nm)) (.l e xs)/\(c.P nm).n=xs.length/\∃ti,E.ty e=ah ti/\(c.P nm).sz=ti.ks.length
 | .dead=>True
def fN(c:eZ)(nm:aE):Obj->aE->Prop
 | .box _,b=>b=(c.P nm).blk
 | .row _ ex xs,b=>((c.P nm).nil=ak/\b=(c.P nm).blk)\/(ex=ai/\∃i j,gm xs i j/\(c.G nm i j).nil=ak/\b=(c.G nm i j).blk)
 |_,_=>False
def wy(σ:St)(c:eZ)(b:aE):Prop:=∃nm o,σ (c_ nm)= .o o/\fN c nm o b
def jf(σ:St)(a:AV):Prop:=∀n∈bN a,σ (c_ n)≠ .jX
def mL(σ:St)(v:SV):Prop:=∀n∈cJ v,σ (c_ n)≠ .jX
structure Ok (E:Tab) (σ:St) (w:bK) (c:eZ):Prop where
 obj:∀nm o,σ (c_ nm)= .o o->pJ E w c nm o
 sep:∀nm o xH o' b,σ (c_ nm)= .o o->σ (c_ xH)= .o o'->fN c nm o b->fN c xH o' b->nm=xH
 kk:∀nm o b,σ (c_ nm)= .o o->fN c nm o b->¬c.K b
 lt:∀b,c.K b->b<w.heap.size
 kn:∀nm xs,σ (c_ nm)= .o (.box xs)->∀a∈xs,jf σ a
structure fC (E:Tab) (σ:St) (a:Act) (w:bK) (c:eZ):Prop where
 ok:∀n,jh E w c (slot σ n) (a.eval (.tmp n))
 kn:∀n,mL σ (slot σ n)
 df:a.defers=[]
def jA(σ:St)(c c':eZ):Prop:=∀nm,(σ (c_ nm)≠ .jX\/900000000<=nm)->c'.P nm=c.P nm/\c'.G nm=c.G nm
def qN(σ:St)(c c':eZ):Prop:=∀nm,(σ (c_ nm)≠ .jX\/900000000<=nm)->c'.P nm=c.P nm/\(zo nm=ak->c'.G nm=c.G nm)
theorem jA.w{σ:St}{c c':eZ}(h:jA σ c c'):qN σ c c':=λnm hn=>⟨(h nm hn).1,λ_=>(h nm hn).2⟩
structure oi (σ:St) (c:eZ) (w:bK) (σ':St) (c':eZ) (w':bK):Prop where
 os:w'.os=w.os
 tape:w'.tape=w.tape
 output:w'.output=w.output
 size:w.heap.size<=w'.heap.size
 K:∀b,c.K b->c'.K b
 same:∀b,b<w.heap.size->¬wy σ c b->w'.heap[b]? =w.heap[b]?
 own:∀b,wy σ' c' b->wy σ c b\/w.heap.size<=b
 kn:∀b,c'.K b->c.K b\/wy σ c b\/w.heap.size<=b
theorem wy.lt{E:Tab}{σ:St}{w:bK}{c:eZ}(h:Ok E σ w c){b:aE}(ho:wy σ c b):b<w.heap.size:=by
 obtain⟨nm,o,h1,h2⟩:=ho;have mS:=h.obj nm o h1;cases o with
 |box xs=>obtain⟨vals,hb,_⟩:=mS;cases h2;exact hb.lt
 |nX=>exact h2.elim
 |fV=>exact h2.elim
 |dead=>exact h2.elim
 |row e ex xs=>
  rcases h2 with ⟨hn,rfl⟩|⟨hex,i,j,⟨y,x,hy,hx,hl⟩,hn,rfl⟩
  ·obtain⟨vals,hb,_⟩:=mS.at_.mem hn;exact hb.lt
  ·by_cases hp:(c.P nm).nil=ai
   ·have:=(mS.at_.nil hp).1;subst this;simp at hy
   ·obtain⟨vals,hb,_,_,_,hc⟩:=mS.at_.mem (by simpa using hp);obtain⟨u,_,hu⟩:=hc i y j x hy hx;rw[bw hex]at hu;cases x with
    |l e2 ys=>obtain⟨_,ti,_,_,_,_,hr⟩:=hu;obtain⟨v2,Ez,_⟩:=hr.mem hn;exact Ez.lt
    |i=>simp[uj]at hl
    |b=>simp[uj]at hl
    |s=>simp[uj]at hl
theorem Ok.Ja{E:Tab}{σ:St}{w:bK}{c:eZ}(h:Ok E σ w c){b:aE}(ho:wy σ c b):¬c.K b:=by obtain⟨nm,o,h1,h2⟩:=ho;exact h.kk nm o b h1 h2
theorem oi.refl(σ:St)(c:eZ)(w:bK):oi σ c w σ c w:=
 ⟨rfl,rfl,rfl,cw _,λ_ h=>h,λ_ _ _=>rfl,λ_ h=> .inl h,λ_ h=> .inl h⟩
theorem oi.trans{σ σ1 σ2:St}{c c1 c2:eZ}{w w1 w2:bK}(h:oi σ c w σ1 c1 w1)(k:oi σ1 c1 w1 σ2 c2 w2):oi σ c w σ2 c2 w2 where
 os:=k.os.trans h.os
 tape:=k.tape.trans h.tape
 output:=k.output.trans h.output
 size:=dg h.size k.size
 K b hb:=k.K b (h.K b hb)
 same b hb hn:=(k.same b (jt hb h.size) (λho=>(h.own b ho).elim hn (λh=>by omega))).trans (h.same b hb hn)
 own b hb:=(k.own b hb).elim (h.own b) (λh1=> .inr (dg h.size h1))
 kn b hb:=by
  rcases k.kn b hb with h1|h1|h1
  ·exact h.kn b h1
  ·exact .inr (h.own b h1)
  ·exact .inr (.inr (dg h.size h1))
theorem oi.ZC{E:Tab}{σ σ':St}{c c':eZ}{w w':bK}(cf:Ok E σ w c)(h:oi σ c w σ' c' w'):∀b,c.K b->w'.heap[b]? =w.heap[b]? :=
 λb hb=>h.same b (cf.lt b hb) (λho=>cf.Ja ho hb)
theorem FB.frame{E:Tab}{w w':bK}{K K':aE->Prop}{b:aE}{cs:aC CV}(h:FB E w K b cs)(hw:∀b,K b->w'.heap[b]? =w.heap[b]?)(hK:∀b,K b->K' b):FB E w' K' b cs:=
 ⟨hK b h.1,λq x hq=>by
  obtain⟨u,hu,hh⟩:=h.2 q x hq;exact⟨u,(uG (a:=ad b q) (hw b h.1)).trans hu,hh.frame hw hK⟩⟩
theorem eG.pc{E:Tab}{w w':bK}{c c':eZ}{a:AV}{v:bj}(h:eG E w c a v)(hw:∀b,c.K b->w'.heap[b]? =w.heap[b]?)(hK:∀b,c.K b->c'.K b)
  (hP:∀n∈bN a,c'.P n=c.P n/\(zo n=ak->c'.G n=c.G n)):eG E w' c' a v:=by
 cases a with
 |i=>exact h
 |b=>exact h
 |s=>exact h
 |nl=>exact h
 |sh e xs=>exact da.frame h hw hK
 |own n=>have:=hP n (by simp[bN]);simp only[eG,this.1]at h⊢;exact h
 |vw n lo hi=>have:=hP n (by simp[bN]);simp only[eG,this.1]at h⊢;exact h
 |bp n j=>have:=hP n (by simp[bN]);simp only[eG,this.1]at h⊢;exact h
 |rp n i j=>have:=hP n (by simp[bN]);simp only[eG,this.1]at h⊢;exact h
 |inn n i j=>have h0:=hP n (by simp[bN]);have this:=h0.2 h.2;simp only[eG,h0.1,this]at h⊢;exact h
 |ip n i j i2 j2=>have h0:=hP n (by simp[bN]);have this:=h0.2 h.2;simp only[eG,h0.1,this]at h⊢;exact h
 |sp e xs i j=>obtain⟨b,o,cp,ti,h1,h2,h3,h4⟩:=h;exact⟨b,o,cp,ti,h1.frame hw hK,h2,h3,h4⟩
 |fn f iQ=>obtain⟨ps,h1,h2,h3⟩:=h;exact⟨ps,h1,h2,λq cs hq=>by obtain⟨b,hb,hf⟩:=h3 q cs hq;exact⟨b,hb,hf.frame hw hK⟩⟩
 |fp cs j=>obtain⟨b,h1,h2⟩:=h;exact⟨b,h1,h2.frame hw hK⟩
theorem qa.pc{E:Tab}{w w':bK}{c c':eZ}{agg:aW}{xs:aC AV}{v:bj}(h:qa E w c agg xs v)(hw:∀b,c.K b->w'.heap[b]? =w.heap[b]?)(hK:∀b,c.K b->c'.K b)
  (hP:∀n∈xs.flatMap bN,c'.P n=c.P n/\(zo n=ak->c'.G n=c.G n)):qa E w' c' agg xs v:=by
 unfold qa at h⊢;split at h
 ·rename_i a;exact eG.pc h hw hK (λn hn=>hP n (by simpa using hn))
 ·obtain⟨vals,h1,h2,h3⟩:=h;refine⟨vals,h1,h2,λj a hj=> ?_⟩
  obtain⟨u,hu,hv⟩:=h3 j a hj;exact⟨u,hu,hv.pc hw hK (λn hn=>hP n (bL.2 ⟨a,aR hj,hn⟩))⟩
 ·exact h.elim
theorem jh.pc{E:Tab}{w w':bK}{c c':eZ}{s:SV}{v:bj}(h:jh E w c s v)(hw:∀b,c.K b->w'.heap[b]? =w.heap[b]?)(hK:∀b,c.K b->c'.K b)
  (hP:∀n∈cJ s,c'.P n=c.P n/\(zo n=ak->c'.G n=c.G n)):jh E w' c' s v:=by
 cases s with
 |un=>trivial
 |v agg xs=>exact qa.pc h hw hK hP
 |j9 l=>
  obtain⟨vs,h1,h2,h3⟩:=h;refine⟨vs,h1,h2,λj agg xs hj=> ?_⟩
  obtain⟨u,hu,hv⟩:=h3 j agg xs hj;exact⟨u,hu,hv.pc hw hK (λn hn=>hP n (bL.2 ⟨(agg,xs),aR hj,hn⟩))⟩
theorem eG.frame{E:Tab}{w w':bK}{c c':eZ}{a:AV}{v:bj}(h:eG E w c a v)(hw:∀b,c.K b->w'.heap[b]? =w.heap[b]?)(hK:∀b,c.K b->c'.K b)
  (hP:∀n∈bN a,c'.P n=c.P n/\c'.G n=c.G n):eG E w' c' a v:=h.pc hw hK (λn hn=>⟨(hP n hn).1,λ_=>(hP n hn).2⟩)
theorem qa.frame{E:Tab}{w w':bK}{c c':eZ}{agg:aW}{xs:aC AV}{v:bj}(h:qa E w c agg xs v)(hw:∀b,c.K b->w'.heap[b]? =w.heap[b]?)(hK:∀b,c.K b->c'.K b)
  (hP:∀n∈xs.flatMap bN,c'.P n=c.P n/\c'.G n=c.G n):qa E w' c' agg xs v:=h.pc hw hK (λn hn=>⟨(hP n hn).1,λ_=>(hP n hn).2⟩)
theorem jh.frame{E:Tab}{w w':bK}{c c':eZ}{s:SV}{v:bj}(h:jh E w c s v)(hw:∀b,c.K b->w'.heap[b]? =w.heap[b]?)(hK:∀b,c.K b->c'.K b)
  (hP:∀n∈cJ s,c'.P n=c.P n/\c'.G n=c.G n):jh E w' c' s v:=h.pc hw hK (λn hn=>⟨(hP n hn).1,λ_=>(hP n hn).2⟩)
theorem jg.frame{w w':bK}{p:Pl}{xs:aQ}{R R':aE->aE->bj->CV->Prop}(h:jg w p xs R)(hw:p.nil=ak->w'.heap[p.blk]? =w.heap[p.blk]?)
  (hR:∀i j y x u,xs[i]? =ah y->y[j]? =ah x->R i j u x->R' i j u x):jg w' p xs R' where
 n:=h.n
 nil:=h.nil
 mem hn:=by
  obtain⟨vals,h1,h2,h3,h4,h5⟩:=h.mem hn;refine⟨vals,h1.frame (hw hn),h2,h3,h4,λi y j x hi hj=> ?_⟩
  obtain⟨u,hu,hr⟩:=h5 i y j x hi hj;exact⟨u,hu,hR i j y x u hi hj hr⟩
theorem XC.frame{E:Tab}{w w':bK}{G:aE->aE->Pl}{i j:aE}{u:bj}{x:CV}(h:XC E w G i j u x)(hw:uj x=ai->(G i j).nil=ak->w'.heap[(G i j).blk]? =w.heap[(G i j).blk]?):XC E w' G i j u x:=by
 cases x with
 |l e ys=>obtain⟨h1,ti,h2,h3,h4,h5,h6⟩:=h;exact⟨h1,ti,h2,h3,h4,h5,h6.frame (hw rfl) (λ_ _ _ _ _ _ _ h=>h)⟩
 |i=>exact h
 |b=>exact h
 |s=>exact h
theorem pJ.frame{E:Tab}{w w':bK}{c c':eZ}{nm:aE}{o:Obj}(h:pJ E w c nm o)(hw:∀b,c.K b->w'.heap[b]? =w.heap[b]?)(hK:∀b,c.K b->c'.K b)
  (hf:∀b,fN c nm o b->w'.heap[b]? =w.heap[b]?) (hP:c'.P nm=c.P nm/\c'.G nm=c.G nm)
  (hPs:∀xs,o= .box xs->∀a∈xs,∀n∈bN a,c'.P n=c.P n/\(zo n=ak->c'.G n=c.G n)):pJ E w' c' nm o:=by
 cases o with
 |dead=>trivial
 |box xs=>
  obtain⟨vals,h1,h2,h3⟩:=h;refine⟨vals, ?_,h2,λj a hj=> ?_⟩
  ·rw[hP.1];exact h1.frame (hf _ rfl)
  ·obtain⟨u,hu,hv⟩:=h3 j a hj;exact⟨u,hu,hv.pc hw hK (hPs xs rfl a (aR hj))⟩
 |nX cs=>show FB E w' c'.K (c'.P nm).blk cs;rw[hP.1];exact FB.frame h hw hK
 |fV e xs=>
  obtain⟨h1,h2,h3⟩:=h;refine⟨?_, ?_, ?_⟩
  ·rw[hP.1];exact h1.frame hw hK
  ·rw[hP.1];exact h2
  ·rw[hP.1];exact h3
 |row e ex xs=>
  obtain⟨h1,h2,h3⟩:=h;refine⟨by rw[hP.1];exact h1, ?_,by rw[hP.1,hP.2];exact h3⟩
  rw[hP.1,hP.2];refine h2.frame (λhn=>hf _ (.inl ⟨hn,rfl⟩)) (λi j y x u hi hj hr=> ?_);by_cases hx:ex=ai
  ·rw[bw hx]at hr⊢;exact hr.frame (λhl hn=>hf _ (.inr ⟨hx,i,j,⟨y,x,hi,hj,hl⟩,hn,rfl⟩))
  ·rw[bG hx]at hr⊢;exact hr.frame hw hK
end Go.FG

namespace Go.FG
theorem tP(s:St)(k:aE)(c:eO):pG s k c k=c:=by simp[pG]
theorem zI(s:St){k n:aE}(c:eO)(h:n≠k):pG s k c n=s n:=by
 have:bD n k=false:=by
  cases hb:bD n k with
  |false=>rfl
  |true=>exact cO (aU hb) h
 simp[pG,this]
theorem rO(n m:aE):qg n≠c_ m:=by unfold qg c_;omega
theorem ml(n m:aE):c_ n≠qg m:=by unfold qg c_;omega
theorem Ha{n m:aE}(h:qg n=qg m):n=m:=by unfold qg at h;omega
theorem jT{n m:aE}(h:c_ n=c_ m):n=m:=by unfold c_ at h;omega
theorem JC(s:St)(d:aE)(c:eO)(m:aE):pG s (qg d) c (c_ m)=s (c_ m):=zI s c (ml m d)
theorem pU(s:St)(n:aE)(c:eO)(m:aE):pG s (c_ n) c (c_ m)=if m=n then c else s (c_ m):=by
 by_cases h:m=n
 ·subst h;simp[tP]
 ·rw[bG h];exact zI s c (λe=>h (jT e))
theorem jl(s:St)(n:aE)(c:eO)(m:aE):slot (pG s (c_ n) c) m=slot s m:=by unfold slot;rw[zI s c (rO m n)]
theorem xW(s:St)(d:aE)(v:SV)(m:aE):slot (pG s (qg d) (.v v)) m=if m=d then v else slot s m:=by
 by_cases h:m=d
 ·subst h;simp[slot,tP]
 ·rw[bG h];unfold slot;rw[zI s _ (λe=>h (Ha e))]
theorem PK(s:St)(l r:aC (aE×eO)):wr s (l++r)=wr (wr s l) r:=by
 induction l generalizing s with
 |nil=>rfl
 |cons a l ih=>obtain⟨k,c⟩:=a;exact ih _
def Rd.val{α:Type}(m:Rd α)(σ:St):az α:=(m.run σ []).map (·.1)
theorem lk{α:Type}(m:Rd α)(σ:St):∀l,(m.run σ l).map (·.1)=m.val σ:=by
 induction m with
 |ret a=>intro l;rfl
 |fail=>intro l;rfl
 |get k f ih=>intro l;simp only[Rd.run,Rd.val];rw[ih,ih]
theorem Rd.LJ{α:Type}{m:Rd α}{σ:St}{l l':aC aE}{a:α}(h:m.run σ l=ah (a,l')):m.val σ=ah a:=by rw[<-lk m σ l,h];rfl
@[simp] theorem Rd.am6 {α:Type} (a:α) (σ:St):(Rd.ret a).val σ=some a:=rfl
@[simp] theorem Rd.alR {α:Type} (σ:St):(Rd.fail:Rd α).val σ=none:=rfl
@[simp] theorem Rd.Bn {α:Type} (k:Nat) (f:eO->Rd α) (σ:St):(Rd.get k f).val σ=(f (σ k)).val σ:=by
 simp only[Rd.val,Rd.run];exact(lk (f (σ k)) σ [k])
@[simp] theorem Rd.Vk {α β:Type} (m:Rd α) (f:α->Rd β) (σ:St):(m.bind f).val σ=(m.val σ).bind λa=>(f a).val σ:=by
 induction m with
 |ret a=>rfl
 |fail=>rfl
 |get k g ih=>simp only[Rd.bind,Rd.Bn];exact ih _
theorem Rd.bind_some{α β:Type}{m:Rd α}{f:α->Rd β}{σ:St}{b:β}(h:(m.bind f).val σ=ah b):∃a,m.val σ=ah a/\(f a).val σ=ah b:=by rw[Rd.Vk,Option.bind_eq_some_iff]at h;exact h
theorem cM{α:Type}{b:aW}{m:Rd α}{σ:St}{a:α}(h:(bif b then m else Rd.fail).val σ=ah a):b=ai/\m.val σ=ah a:=by
 cases b with
 |true=>exact⟨rfl,h⟩
 |false=>simp at h
def jZ(Ch:aE->Prop)(σ:St)(c:eZ)(b:aE):Prop:=∃nm o,Ch nm/\σ (c_ nm)= .o o/\fN c nm o b
theorem jZ.own{Ch:aE->Prop}{σ:St}{c:eZ}{b:aE}(h:jZ Ch σ c b):wy σ c b:=by obtain⟨nm,o,_,h1,h2⟩:=h;exact⟨nm,o,h1,h2⟩
theorem mi{c c':eZ}{nm:aE}{o:Obj}(h:c'.P nm=c.P nm/\c'.G nm=c.G nm)(b:aE):fN c' nm o b=fN c nm o b:=by cases o<;>simp only[fN,h.1,h.2]
theorem Ok.wP{E:Tab}{σ σ':St}{w w':bK}{c c':eZ}(h:Ok E σ w c)(Ch:aE->Prop)
  (hσ:∀nm,¬Ch nm->σ' (c_ nm)=σ (c_ nm)) (iw:∀nm,σ (c_ nm)≠ .jX->σ' (c_ nm)≠ .jX) (hA:qN σ c c') (hAG:∀nm,¬Ch nm->σ (c_ nm)≠ .jX->c'.G nm=c.G nm)
  (hW:∀b,b<w.heap.size->¬jZ Ch σ c b->w'.heap[b]? =w.heap[b]?) (gi:w.heap.size<=w'.heap.size)
  (hK:∀b,c.K b->c'.K b) (VO:∀b,c'.K b->c.K b\/jZ Ch σ c b\/w.heap.size<=b) (GD:∀b,c'.K b->b<w'.heap.size)
  (mS:∀nm o,Ch nm->σ' (c_ nm)= .o o->pJ E w' c' nm o)
  (pN:∀nm o b,Ch nm->σ' (c_ nm)= .o o->fN c' nm o b->(jZ Ch σ c b\/w.heap.size<=b)/\¬c'.K b)
  (Sq:∀nm o xH o' b,Ch nm->Ch xH->σ' (c_ nm)= .o o->σ' (c_ xH)= .o o'->fN c' nm o b->fN c' xH o' b->nm=xH)
  (IG:∀nm xs,Ch nm->σ' (c_ nm)= .o (.box xs)->∀a∈xs,jf σ' a)
  (OV:w'.os=w.os) (Sr:w'.tape=w.tape) (aeD:w'.output=w.output):Ok E σ' w' c'/\oi σ c w σ' c' w':=by
 have Nq:∀nm o b,¬Ch nm->σ (c_ nm)= .o o->fN c nm o b->¬jZ Ch σ c b:=by intro nm o b hc ho hf ⟨iC,o2,hc2,ho2,hf2⟩;exact hc (h.sep nm o iC o2 b ho ho2 hf hf2▸hc2)
 have agr:∀nm o,¬Ch nm->σ' (c_ nm)= .o o->σ (c_ nm)= .o o/\(c'.P nm=c.P nm/\c'.G nm=c.G nm):=by intro nm o hc ho;rw[hσ nm hc]at ho;exact⟨ho,(hA nm (.inl (by rw[ho];simp))).1,hAG nm hc (by rw[ho];simp)⟩
 have ajl:∀b,c.K b->w'.heap[b]? =w.heap[b]? :=λb hb=>hW b (h.lt b hb) (λhi=>h.Ja hi.own hb);have lt:∀nm o b,σ (c_ nm)= .o o->fN c nm o b->b<w.heap.size:=λnm o b ho hf=>wy.lt h ⟨nm,o,ho,hf⟩;refine⟨⟨?_, ?_, ?_,GD, ?_⟩,⟨OV,Sr,aeD,gi,hK, ?_, ?_, ?_⟩⟩
 ·intro nm o ho;by_cases hc:Ch nm
  ·exact mS nm o hc ho
  ·obtain⟨vg,ha⟩:=agr nm o hc ho;refine(h.obj nm o vg).frame ajl hK (λb hb=>hW b (lt nm o b vg hb) (Nq nm o b hc vg hb)) ha ?_;intro xs hx a hm n hn;exact hA n (.inl (h.kn nm xs (hx▸vg) a hm n hn))
 ·intro nm o xH o' b ho vg hf vd;by_cases hc:Ch nm
  ·by_cases Iz:Ch xH
   ·exact Sq nm o xH o' b hc Iz ho vg hf vd
   ·obtain⟨h1,ha⟩:=agr xH o' Iz vg;rw[mi ha]at vd;rcases(pN nm o b hc ho hf).1 with hi|hi
    ·exact cO hi (Nq xH o' b Iz h1 vd)
    ·have:=lt xH o' b h1 vd;omega
  ·obtain⟨h1,ha⟩:=agr nm o hc ho;rw[mi ha]at hf;by_cases Iz:Ch xH
   ·rcases(pN xH o' b Iz vg vd).1 with hi|hi
    ·exact cO hi (Nq nm o b hc h1 hf)
    ·have:=lt nm o b h1 hf;omega
   ·obtain⟨h2,ha'⟩:=agr xH o' Iz vg;rw[mi ha']at vd;exact h.sep nm o xH o' b h1 h2 hf vd
 ·intro nm o b ho hf;by_cases hc:Ch nm
  ·exact(pN nm o b hc ho hf).2
  ·obtain⟨h1,ha⟩:=agr nm o hc ho;rw[mi ha]at hf;intro hk;rcases VO b hk with h2|h2|h2
   ·exact h.kk nm o b h1 hf h2
   ·exact Nq nm o b hc h1 hf h2
   ·have:=lt nm o b h1 hf;omega
 ·intro nm xs ho a hm;by_cases hc:Ch nm
  ·exact IG nm xs hc ho a hm
  ·obtain⟨h1,_⟩:=agr nm _ hc ho;intro n hn;exact iw n (h.kn nm xs h1 a hm n hn)
 ·intro b hb hn;exact hW b hb (λhi=>hn hi.own)
 ·rintro b ⟨nm,o,ho,hf⟩;by_cases hc:Ch nm
  ·exact(pN nm o b hc ho hf).1.imp jZ.own id
  ·obtain⟨h1,ha⟩:=agr nm o hc ho;rw[mi ha]at hf;exact .inl ⟨nm,o,h1,hf⟩
 ·intro b hb;rcases VO b hb with h2|h2|h2
  ·exact .inl h2
  ·exact .inr (.inl h2.own)
  ·exact .inr (.inr h2)
theorem Ok.change{E:Tab}{σ σ':St}{w w':bK}{c c':eZ}(h:Ok E σ w c)(Ch:aE->Prop)
  (hσ:∀nm,¬Ch nm->σ' (c_ nm)=σ (c_ nm)) (iw:∀nm,σ (c_ nm)≠ .jX->σ' (c_ nm)≠ .jX) (hA:jA σ c c')
  (hW:∀b,b<w.heap.size->¬jZ Ch σ c b->w'.heap[b]? =w.heap[b]?) (gi:w.heap.size<=w'.heap.size)
  (hK:∀b,c.K b->c'.K b) (VO:∀b,c'.K b->c.K b\/jZ Ch σ c b\/w.heap.size<=b) (GD:∀b,c'.K b->b<w'.heap.size)
  (mS:∀nm o,Ch nm->σ' (c_ nm)= .o o->pJ E w' c' nm o)
  (pN:∀nm o b,Ch nm->σ' (c_ nm)= .o o->fN c' nm o b->(jZ Ch σ c b\/w.heap.size<=b)/\¬c'.K b)
  (Sq:∀nm o xH o' b,Ch nm->Ch xH->σ' (c_ nm)= .o o->σ' (c_ xH)= .o o'->fN c' nm o b->fN c' xH o' b->nm=xH)
  (IG:∀nm xs,Ch nm->σ' (c_ nm)= .o (.box xs)->∀a∈xs,jf σ' a)
  (OV:w'.os=w.os) (Sr:w'.tape=w.tape) (aeD:w'.output=w.output):Ok E σ' w' c'/\oi σ c w σ' c' w':=
 h.wP Ch hσ iw hA.w (λnm _ hn=>(hA nm (.inl hn)).2) hW gi hK VO GD mS pN Sq IG OV Sr aeD
theorem Ok.slot{E:Tab}{σ σ':St}{w:bK}{c:eZ}(h:Ok E σ w c)(hσ:∀nm,σ' (c_ nm)=σ (c_ nm)):Ok E σ' w c/\oi σ c w σ' c w:=by
 refine⟨⟨λnm o ho=>h.obj nm o (hσ nm▸ho),λnm o xH o' b h1 h2=>h.sep nm o xH o' b (hσ nm▸h1) (hσ xH▸h2),λnm o b h1=>h.kk nm o b (hσ nm▸h1),h.lt,λnm xs ho a hm n hn=>by rw[hσ];exact h.kn nm xs (hσ nm▸ho) a hm n hn⟩,
  ⟨rfl,rfl,rfl,cw _,λ_ h=>h,λ_ _ _=>rfl,λb ⟨nm,o,ho,hf⟩=> .inl ⟨nm,o,hσ nm▸ho,hf⟩,λ_ h=> .inl h⟩⟩
theorem Dz(a:Act)(d:aE)(v:bj)(h:d<a.tmps.size):(a.put (ah d) v).eval (.tmp d)=v:=by simp[Vx,HG,h]
theorem Io(a:Act)(d n:aE)(v:bj)(h:n≠d):(a.put (ah d) v).eval (.tmp n)=a.eval (.tmp n):=by simp only[Vx,HG,eI,n9];rw[bG (λe=>h e.symm)]
theorem fC.wP{E:Tab}{σ σ':St}{a:Act}{w w':bK}{c c':eZ}(h:fC E σ a w c)(cf:Ok E σ w c)(hG:oi σ c w σ' c' w')(hA:qN σ c c')(iw:∀nm,σ (c_ nm)≠ .jX->σ' (c_ nm)≠ .jX)
  (o:fA) (v:bj) (hs:∀n,o.dst≠ah n->slot σ' n=slot σ n) (hd:∀d,o.dst=ah d->d<a.tmps.size/\jh E w' c' (slot σ' d) v/\mL σ' (slot σ' d)):fC E σ' (a.put o.dst v) w' c':=by
 have keep:∀n,jh E w' c' (slot σ n) (a.eval (.tmp n)):=λn=>(h.ok n).pc (hG.ZC cf) hG.K (λm hm=>hA m (.inl (h.kn n m hm)));have abd:∀n,mL σ' (slot σ n):=λn m hm=>iw m (h.kn n m hm);cases ho:o.dst with
 |none=>
  refine⟨λn=> ?_,λn=> ?_,h.df⟩
  ·rw[hs n (by simp[ho])];exact keep n
  ·rw[hs n (by simp[ho])];exact abd n
 |some d=>
  obtain⟨h1,h2,h3⟩:=hd d ho;refine⟨λn=> ?_,λn=> ?_,h.df⟩
  ·by_cases hn:n=d
   ·subst hn;rw[Dz a n v h1];exact h2
   ·rw[Io a d n v hn,hs n (by rw[ho];simpa using λe=>hn e.symm)];exact keep n
  ·by_cases hn:n=d
   ·subst hn;exact h3
   ·rw[hs n (by rw[ho];simpa using λe=>hn e.symm)];exact abd n
theorem fC.change{E:Tab}{σ σ':St}{a:Act}{w w':bK}{c c':eZ}(h:fC E σ a w c)(cf:Ok E σ w c)(hG:oi σ c w σ' c' w')(hA:jA σ c c')(iw:∀nm,σ (c_ nm)≠ .jX->σ' (c_ nm)≠ .jX)
  (o:fA) (v:bj) (hs:∀n,o.dst≠ah n->slot σ' n=slot σ n) (hd:∀d,o.dst=ah d->d<a.tmps.size/\jh E w' c' (slot σ' d) v/\mL σ' (slot σ' d)):fC E σ' (a.put o.dst v) w' c':=
 h.wP cf hG hA.w iw o v hs hd
theorem rP(σ:St)(o:fA)(v:SV):(∀n,o.dst≠ah n->slot (wr σ (dw o v)) n=slot σ n)/\(∀d,o.dst=ah d->slot (wr σ (dw o v)) d=v)/\∀nm,wr σ (dw o v) (c_ nm)=σ (c_ nm):=by
 cases ho:o.dst with
 |none=>simp[dw,ho,wr]
 |some d=>
  refine⟨λn hn=> ?_,λd' hd=> ?_,λnm=> ?_⟩
  ·simp only[dw,ho,wr];rw[xW,bG (by rintro rfl;exact hn rfl)]
  ·cases hd;simp only[dw,ho,wr];rw[xW,bw rfl]
  ·simp only[dw,ho,wr];exact JC _ _ _ _
end Go.FG

namespace Go.FG
def iJ:Ck->bj
 | .i k=> .int k 0| .b=> .bool ak| .s=> .string ⟨#[]⟩| .l _=> .slice aj 0 0| .o=> .nilIface
def lT:AV->bj
 | .i k n=> .int k n| .b x=> .bool x| .s x=> .string x|_=> .nilIface
structure eC (P:cZ) (E:Tab):Prop where
 info:∀t ti,E.ty t=ah ti->∃inf,P.info? t=ah inf/\inf.size=ti.ks.length/\inf.bytes=ti.bytes/\0<ti.ks.length/\
  (K9 ti.ks=ai->∃z,inf.zero=ah z/\z.cells=(ti.ks.map iJ).toArray/\(ti.agg=ai->z= .agg (ti.ks.map iJ).toArray))
 desc:∀t ti,E.ty t=ah ti->∃d,P.underlying t=ah d/\
  (ti.agg=ai->∃fs,d= .struct fs/\∀f o n,E.fo t f=ah (o,n)->∃fd,fs[f]? =ah fd/\fd.offset=o/\(P.info? fd.type).map (·.size)=ah n/\n≠0/\o+n<=ti.ks.length)/\
  (ti.agg=ak->(∃k,ti.ks=[.i k]/\d= .int k)\/(ti.ks=[.b]/\d= .bool)\/(ti.ks=[.s]/\d= .string)\/(∃e,ti.ks=[.l e]/\d= .slice e)\/
   (ti.ks=[.o]/\(match d with| .struct _| .array _ _=>ak|_=>ai)=ai))
 fo:∀t f o n,E.fo t f=ah (o,n)->∃ti,E.ty t=ah ti/\ti.agg=ai
 pl:∀t ti,E.ty t=ah ti->ti.agg=ai->∀fs,P.underlying t=ah (.struct fs)->∃pl,fs.toList.mapM (λf=>(P.info? f.type).map λi=>(f.offset,i.size))=ah pl/\∀f o n,E.fo t f=ah (o,n)->pl[f]? =ah (o,n)
 eq:∀t ti,mF t E.eqs=ai->E.ty t=ah ti->∀(w:bK) (x y:dx) (xs ys:aC AV) (r:aW),WO xs ys=ah r->xs.map GN=ti.ks->ys.map GN=ti.ks->
  (do eqGuard .eql t x y (.agg (xs.map lT).toArray) (.agg (ys.map lT).toArray);binOp .eql t (.agg (xs.map lT).toArray) (.agg (ys.map lT).toArray)).run P w= .ok (.bool r) w/\
  (do eqGuard .neq t x y (.agg (xs.map lT).toArray) (.agg (ys.map lT).toArray);binOp .neq t (.agg (xs.map lT).toArray) (.agg (ys.map lT).toArray)).run P w= .ok (.bool !r) w
 fl:∀t f,E.R7 t f=ai->∀fs fd,P.underlying t=ah (.struct fs)->fs[f]? =ah fd->∀w,(Go.isAgg fd.type).run P w= .ok ak w
theorem Ej{v:bj}(h:v.oneCell'=ai):v.cells= #[v]:=by cases v<;>simp_all [Value.cells,Value.oneCell']
theorem eG.one{E:Tab}{w:bK}{c:eZ}{a:AV}{v:bj}(h:eG E w c a v):v.oneCell'=true:=by
 cases a with
 |i=>cases h;rfl
 |b=>cases h;rfl
 |s=>cases h.1;rfl
 |nl=>cases h;rfl
 |sh e xs=>cases h<;>rfl
 |own n=>cases h;unfold lO;split<;>rfl
 |vw n lo hi=>
  obtain⟨_,_,h1,h2⟩:=h;by_cases hn:(c.P n).nil=ai
  ·rw[h1 hn];rfl
  ·rcases h2 (by simpa using hn)with ⟨_,h⟩|⟨_,o,_,h⟩<;>rw[h]<;>rfl
 |bp n j=>cases h;rfl
 |rp n i j=>rw[h.2];rfl
 |sp e xs i j=>obtain⟨_,_,_,_,_,_,_,h⟩:=h;rw[h];rfl
 |inn n i j=>rw[h.1.2];unfold lO;split<;>rfl
 |ip n i j i2 j2=>rw[h.1.2.2];rfl
 |fn f iQ=>obtain⟨ps,h,_⟩:=h;rw[h];rfl
 |fp cs j=>obtain⟨b,h,_⟩:=h;rw[h];rfl
section
variable {P:cZ} (w:bK)
theorem Addr.nV(b o i:aE):(ad b o).add i=ad b (o+i):=by unfold Addr.add ad;split<;>simp_all
theorem DN(b o:aE):∀(vs:aC bj) (i:aE) (w:bK) (cur:dq bj),nQ w b cur->o+i+vs.length<=cur.size->(∀v∈vs,v.oneCell'=ai)->
  (storeCells (ad b o) vs i).run P w= .ok () (w.setRow b (cur.toList.take (o+i)++vs++cur.toList.drop (o+i+vs.length)).toArray):=by
 intro vs;induction vs with
 |nil=>intro i w cur hb _ _;obtain⟨t,fr,hg,hf⟩:=hb;simp only[storeCells,dj,jL,yH,List.take_append_drop,tU];rw[setRow_self w b cur t fr hg];rfl
 |cons v rest ih=>
  intro i w cur hb hl h1;have hi:o+i<cur.size:=by simp at hl;omega
  have arB:=hb.free hi;obtain⟨t,fr,hg,hf⟩:=hb;have hcell:w.cell? (ad b (o+i))=ah cur[o+i]:=by simp[World.cell?,hg,hi]
  have KR:(store ((ad b o).add i) v).run P w= .ok () (w.setRow b (cur.setIfInBounds (o+i) v)):=by rw[Addr.nV,run_store P w _ v _ (h1 v (by simp)),hcell];simp[arB,setCell_eq_setRow w b (o+i) cur t fr v hg]
  have P3:nQ (w.setRow b (cur.setIfInBounds (o+i) v)) b (cur.setIfInBounds (o+i) v):=⟨t,fr,setRow_heap w b cur _ t fr hg,by simpa using hf⟩
  have ih':=ih (i+1) (w.setRow b (cur.setIfInBounds (o+i) v)) (cur.setIfInBounds (o+i) v) P3 (by simp at hl⊢;omega) (λx hx=>h1 x (by simp[hx]));simp only[storeCells,ch,KR,bF,ih',setRow_setRow];congr 3;have e:=list_seg_step cur.toList (o+i) v rest (by simp at hl⊢;omega);simpa [Array.toList_setIfInBounds,lW]using e
def ed(cur:dq bj)(o:aE)(vs:aC bj):dq bj:=(cur.toList.take o++vs++cur.toList.drop (o+vs.length)).toArray
theorem e8{cur:dq bj}{o:aE}{vs:aC bj}(h:o+vs.length<=cur.size):(ed cur o vs).size=cur.size:=by simp[ed];omega
theorem gu{cur:dq bj}{o:aE}{vs:aC bj}(h:o+vs.length<=cur.size)(k:aE):
  (ed cur o vs)[k]? =if o<=k/\k<o+vs.length then vs[k-o]? else cur[k]? :=by
 simp only[ed,h_];by_cases h1:k<o
 ·rw[bG (by omega),cq,dF (by simp;omega),d_,bw h1];simp
 ·by_cases h2:k<o+vs.length
  ·rw[bw ⟨by omega,h2⟩,cq,dc (by simp;omega),dF (by simp;omega)];congr 1;simp;omega
  ·rw[bG (by omega),cq,dc (by simp;omega),dc (by simp;omega),dR];simp only[cW];congr 1;simp;omega
theorem nD{b o:aE}{vs:aC bj}{cur:dq bj}(hb:nQ w b cur)(hl:o+vs.length<=cur.size)(h1:∀v∈vs,v.oneCell'=ai):
  (storeCells (ad b o) vs).run P w= .ok () (w.setRow b (ed cur o vs)):=by have:=DN (P:=P) b o vs 0 w cur hb (by simpa using hl) h1;simpa [ed]using this
theorem nQ.setRow{w:bK}{b:aE}{cur new:dq bj}(h:nQ w b cur)(hs:new.size=cur.size):nQ (w.setRow b new) b new:=by obtain⟨t,fr,hg,hf⟩:=h;exact⟨t,fr,setRow_heap w b cur new t fr hg,by rw[hs];exact hf⟩
theorem nQ.alloc(w:bK)(cs:dq bj)(t:TypeId):nQ (w.alloc (.cells cs t)) w.heap.size cs:=
 ⟨t,(0,0),heap_alloc_new w _,λo _=>by simp⟩
theorem xR{b o:aE}{cs:aC bj}(h:∀j v,cs[j]? =ah v->w.cell? (ad b (o+j))=ah v):(loadCells (ad b o) cs.length).run P w= .ok cs.toArray w:=
 run_loadCells_list w (ad b o) cs (λj v hj=>by rw[Addr.nV];exact h j v hj)
theorem CL{E:Tab}(hE:eC P E){t:aE}{ti:TI}(ht:E.ty t=ah ti){b o:aE}{cs:aC bj}(hl:cs.length=ti.ks.length)(h:∀j v,cs[j]? =ah v->w.cell? (ad b (o+j))=ah v):
  (yF t (.pointer (ah (ad b o)))).run P w= .ok (if ti.agg=ai then .agg cs.toArray else cs.headD .nilIface) w:=by
 obtain⟨inf,hi,gi,_,kZ,_⟩:=hE.info t ti ht;obtain⟨d,hd,ha,hn⟩:=hE.desc t ti ht;cases ui:ti.agg with
 |true=>obtain⟨fs,rfl,_⟩:=ha ui;have hr:=xR (P:=P) w (b:=b) (o:=o) h;simp only[yF,uF,loadVar,isAgg,ch,run_underlying hd,cS,bF,if_true,sizeOf,typeInfo,program,ng,hi,gi,<-hl,hr]
 |false=>
  have xB:∃k,ti.ks=[k]:=by rcases hn ui with ⟨k,h,_⟩|⟨h,_⟩|⟨h,_⟩|⟨e,h,_⟩|⟨h,_⟩<;>exact⟨_,h⟩
  obtain⟨k,hk⟩:=xB;rw[hk]at hl;obtain⟨v,rfl⟩:=gV.1 hl;have hc:=h 0 v rfl;simp only[yH]at hc;have ayX:(match d with| .struct _| .array _ _=>ai|_=>ak)=false:=by
   rcases hn ui with ⟨k,_,rfl⟩|⟨_,rfl⟩|⟨_,rfl⟩|⟨e,_,rfl⟩|⟨_,h⟩
   ·rfl
   ·rfl
   ·rfl
   ·rfl
   ·cases d<;>simp_all
  have arh:(isAgg t).run P w= .ok ak w:=by simp only[isAgg,ch,run_underlying hd,bF];cases d<;>simp_all
  simp only[yF,uF,loadVar,ch,cS,bF,arh,du,if_false,run_load,hc,List.headD]
theorem Js{E:Tab}(hE:eC P E){t:aE}{ti:TI}(ht:E.ty t=ah ti){b o:aE}{v:bj}{cur:dq bj}(hl:v.cells.size=ti.ks.length)(hb:nQ w b cur)(hf:o+v.cells.size<=cur.size)(h1:∀u∈v.cells.toList,u.oneCell'=ai):
  (Wi t (.pointer (ah (ad b o))) v).run P w= .ok () (w.setRow b (ed cur o v.cells.toList)):=by obtain⟨inf,hi,gi,_⟩:=hE.info t ti ht;have hr:=nD (P:=P) w hb (o:=o) (vs:=v.cells.toList) (by simpa using hf) h1;simp only[Wi,uF,storeVar,ch,cS,bF,sizeOf,typeInfo,program,ng,hi,gi,hl,ne_eq,not_true_eq_false,if_false,hr]
theorem PA{E:Tab}(hE:eC P E){t:aE}{ti:TI}(ht:E.ty t=ah ti)(ho:K9 ti.ks=ai):
  (Instr.alloc t ai (.tuple #[])).run P w= .ok (.pointer (ah (ad w.heap.size 0))) (w.alloc (.cells (ti.ks.map iJ).toArray t)):=by obtain⟨inf,hi,gi,_,_,hz⟩:=hE.info t ti ht;obtain⟨z,JL,DI,_⟩:=hz ho;simp only[Instr.alloc,ch,zeroValue,typeInfo,program,ng,hi,bF,cS,JL,newVar,newRow,newObj,DI];rfl
theorem Ur(t:aE)(v:bj):(Instr.box t v).run P w= .ok (.pointer (ah (ad w.heap.size 0))) (w.alloc (.cells v.cells t)):=by simp only[Instr.box,ch,newVar,newRow,newObj,ng,bF,cS];rfl
theorem Jn{E:Tab}(hE:eC P E){t f off n:aE}(hf:E.fo t f=ah (off,n))(b o:aE):
  (Wg t (.pointer (ah (ad b o))) f).run P w= .ok (.pointer (ah (ad b (o+off)))) w:=by
 obtain⟨ti,ht,ui⟩:=hE.fo t f off n hf;obtain⟨d,hd,ha,_⟩:=hE.desc t ti ht;obtain⟨fs,rfl,KM⟩:=ha ui;obtain⟨fd,h1,h2,h3,h4,_⟩:=KM f off n hf;cases hq:P.info? fd.type with
 |none=>simp[hq]at h3
 |some inf=>
  have hs:inf.size=n:=by simpa [hq]using h3
  have iw:¬inf.size=0:=by omega
  simp only[Wg,ch,run_underlying hd,bF,h1,uF,cS,fieldPlace,sizeOf,typeInfo,program,ng,hq,bG iw,m7,Addr.nV,h2]
theorem o7{E:Tab}(hE:eC P E){t e:aE}{ti:TI}(ht:E.ty t=ah ti)(ui:ti.agg=ak)(hk:ti.ks=[.l e]):P.underlying t=ah (.slice e):=by obtain⟨d,hd,_,hn⟩:=hE.desc t ti ht;rcases hn ui with ⟨k,h,_⟩|⟨h,_⟩|⟨h,_⟩|⟨e',h,rfl⟩|⟨h,_⟩<;>rw[hk]at h<;>simp_all
theorem Jo{E:Tab}(hE:eC P E){t e:aE}{te:TI}(hu:P.underlying t=ah (.slice e))(he:E.ty e=ah te)(b o n c:aE)(k:nc)(i:ax)(h0:0<=i)(h1:i<n):
  (Wh t (.slice (ah (ad b o)) n c) (.int k i)).run P w= .ok (.pointer (ah (ad b (o+i.toNat*te.ks.length)))) w:=by obtain⟨inf,hi,gi,_⟩:=hE.info e te he;simp only[Wh,asIntOf,ch,cS,bF,run_underlying hu,h0,h1,and_self,if_true,sizeOf,typeInfo,program,ng,hi,gi,Addr.nV]
end
end Go.FG

namespace Go.FG
section
variable {P:cZ} {E:fU} {σ:St} {a:Act} {w:bK} {c:eZ}
theorem mm(dJ:fC E σ a w c){x:dx}{v:SV}(h:(GZ x).val σ=ah v):jh E w c v (a.eval x)/\mL σ v:=by
 cases x with
 |tmp t=>
  simp only[GZ,Rd.Bn]at h;cases hc:σ (qg t)with
  |v x=>rw[hc]at h;obtain rfl:=aJ h;have h1:=dJ.ok t;have h2:=dJ.kn t;simp only[slot,hc]at h1 h2;exact⟨h1,h2⟩
  |o x=>rw[hc]at h;simp at h;subst h;exact⟨trivial,λn hn=>by simp[cJ]at hn⟩
  |jX=>rw[hc]at h;simp at h;subst h;exact⟨trivial,λn hn=>by simp[cJ]at hn⟩
 |const v'=>
  obtain rfl:=aJ h;refine⟨?_, ?_⟩
  ·show jh E w c (cst v') v';unfold cst;split;case h_3 x=>
    cases hd:fK x.size 4611686018427387904 with
    |true=>exact⟨rfl,cG hd⟩
    |false=>exact trivial
   all_goals first|trivial|rfl
  ·unfold cst;intro n hn;split at hn;case h_3 x=>
    cases hd:fK x.size 4611686018427387904 with
    |true=>simp[hd,cJ,bN]at hn
    |false=>simp[hd,cJ]at hn
   all_goals simp[cJ,bN]at hn
 |global g=>simp[GZ]at h
 |func f=>obtain rfl:=aJ h;exact⟨⟨#[],rfl,rfl,λq cs hq=>by simp at hq⟩,λn hn=>by simp[cJ,bN]at hn⟩
theorem iX(dJ:fC E σ a w c){x:dx}{v:AV}(h:(rJ x).val σ=ah v):eG E w c v (a.eval x)/\jf σ v:=by
 obtain⟨s,h1,h2⟩:=Rd.bind_some h;obtain⟨h3,h4⟩:=mm dJ h1;split at h2
 ·obtain rfl:=aJ h2;exact⟨h3,λn hn=>h4 n (by simpa [cJ]using hn)⟩
 ·simp at h2
theorem pQ(dJ:fC E σ a w c){x:dx}{k:nc}{n:ax}(h:(Ct x).val σ=ah (k,n)):a.eval x= .int k n:=by
 obtain⟨s,h1,h2⟩:=Rd.bind_some h;obtain⟨h3,_⟩:=iX dJ h1;split at h2
 ·simp at h2;obtain⟨rfl,rfl⟩:=h2;exact h3
 ·simp at h2
theorem dy{nm:aE}{x:Obj}(h:(jH nm).val σ=ah x):σ (c_ nm)= .o x:=by
 simp only[jH,Rd.Bn]at h;split at h
 ·rename_i y hy;simp at h;subst h;exact hy
 ·simp at h
theorem dX{t:aE}{ti:TI}(h:(sI E t).val σ=ah ti):E.ty t=ah ti:=by
 unfold sI at h;split at h
 ·simp at h;subst h;assumption
 ·simp at h
theorem kE{nm:aE}{u:Unit}(h:(fresh nm).val σ=ah u):σ (c_ nm)= .jX/\nm<900000000:=by
 simp only[fresh,Rd.Bn]at h;split at h
 ·rename_i hy;obtain⟨h1,_⟩:=cM h;exact⟨hy,by have:=cG h1;omega⟩
 ·simp at h
def gU(P:cZ)(E:fU)(σ:St)(a:Act)(w:bK)(c:eZ)(o:fA)(ws:aC (aE×eO)):Prop:=
 ∀(K:Act->bK->Prop) (Q:Exit->Act->bK->Prop),
  (∀v w' c',Ok E (wr σ ws) w' c'->fC E (wr σ ws) (a.put o.dst v) w' c'->oi σ c w (wr σ ws) c' w'->qN σ c c'->K (a.put o.dst v) w')->o.wp P a w K Q
theorem yo{o:fA}{v:bj}{w':bK}{K:Act->bK->Prop}{Q:Exit->Act->bK->Prop}(hr:(execOp a.eval o).run P w= .ok (.value v) w')(hK:K (a.put o.dst v) w'):o.wp P a w K Q:=by unfold Oc;rw[hr];exact hK
theorem CY{o:fA}{w':bK}{K:Act->bK->Prop}{Q:Exit->Act->bK->Prop}(hr:(execOp a.eval o).run P w= .ok .skip w')(hK:K (a.put o.dst undef) w'):o.wp P a w K Q:=by unfold Oc;rw[hr];exact hK
theorem jA.refl(σ:St)(c:eZ):jA σ c c:=λ_ _=>⟨rfl,rfl⟩
theorem gF(cf:Ok E σ w c)(dJ:fC E σ a w c){o:fA}(hd:∀d,o.dst=ah d->d<a.tmps.size){s:SV}{v:bj}
  (hs:jh E w c s v) (hk:mL σ s) (hr:(execOp a.eval o).run P w= .ok (.value v) w):gU P E σ a w c o (dw o s):=by
 intro K Q hK;obtain⟨s1,s2,s3⟩:=rP σ o s;obtain⟨h1,h2⟩:=cf.slot s3;refine yo hr (hK v w c h1 ?_ h2 (jA.refl _ _).w);refine dJ.change cf h2 (jA.refl _ _) (λnm hn=>by rw[s3];exact hn) o v s1 (λd ho=>⟨hd d ho, ?_, ?_⟩)
 ·rw[s2 d ho];exact hs
 ·rw[s2 d ho];intro n hn;rw[s3];exact hk n hn
theorem B8(cf:Ok E σ w c)(dJ:fC E σ a w c){o:fA}(hd:∀d,o.dst=ah d->d<a.tmps.size){nm:aE}{ob:Obj}{s:SV}{v:bj}{w':bK}{p:Pl}{g:aE->aE->Pl}
  (hn:σ (c_ nm)= .jX) (jm:nm<900000000)
  (mS:∀c':eZ,c'.P nm=p->c'.G nm=g->(∀b,c.K b->c'.K b)->jA σ c c'->pJ E w' c' nm ob)
  (pN:∀c':eZ,c'.P nm=p->c'.G nm=g->∀b,fN c' nm ob b->w.heap.size<=b)
  (IG:∀xs,ob= .box xs->∀a∈xs,jf σ a)
  (yw:∀c':eZ,c'.P nm=p->c'.G nm=g->jh E w' c' s v) (AH:∀n∈cJ s,n=nm\/σ (c_ n)≠ .jX)
  (hW:∀b,b<w.heap.size->w'.heap[b]? =w.heap[b]?) (gi:w.heap.size<=w'.heap.size) (OV:w'.os=w.os) (Xc:w'.tape=w.tape) (W7:w'.output=w.output)
  (hr:(execOp a.eval o).run P w= .ok (.value v) w'):gU P E σ a w c o ((c_ nm, .o ob)::dw o s):=by
 intro K Q hK;let c':eZ:=⟨λn=>if n=nm then p else c.P n,λn=>if n=nm then g else c.G n,c.K⟩
 have hP:c'.P nm=p:=bw rfl;have hG:c'.G nm=g:=bw rfl;have hA:jA σ c c':=λm hm=>by
  have:m≠nm:=by rintro rfl;rcases hm with h|h;exact h hn;omega
  exact⟨bG this,bG this⟩
 let σ1:=pG σ (c_ nm) (.o ob);obtain⟨s1,s2,s3⟩:=rP σ1 o s;have key:∀m,wr σ1 (dw o s) (c_ m)=if m=nm then .o ob else σ (c_ m):=λm=>by rw[s3];exact pU _ _ _ _
 have iw:∀m,σ (c_ m)≠ .jX->wr σ1 (dw o s) (c_ m)≠ .jX:=λm hm=>by rw[key];split<;>simp_all
 have hh:=cf.change (σ':=wr σ1 (dw o s)) (w':=w') (c':=c') (λm=>m=nm) (λm hm=>by rw[key,bG hm]) iw hA
  (λb hb _=>hW b hb) gi (λ_ h=>h) (λ_ h=> .inl h) (λb hb=>jt (cf.lt b hb) gi)
  (λm x hm ho=>by subst hm;rw[key,bw rfl]at ho;cases ho;exact mS c' hP hG (λ_ h=>h) hA)
  (λm x b hm ho hf=>by subst hm;rw[key,bw rfl]at ho;cases ho;have:=pN c' hP hG b hf;exact⟨.inr this,λhk=>by have:=cf.lt b hk;omega⟩)
  (λm x m' x' b hm w_ _ _ _ _=>by rw[hm,w_])
  (λm xs hm ho y hy n kF=>by subst hm;rw[key,bw rfl]at ho;cases ho;exact iw n (IG xs rfl y hy n kF)) OV Xc W7
 refine yo hr (hK v w' c' hh.1 ?_ hh.2 hA.w);refine dJ.change cf hh.2 hA iw o v (λn kF=>by rw[s1 n kF];exact jl _ _ _ _) (λd ho=>⟨hd d ho, ?_, ?_⟩)
 ·show jh E w' c' (slot (wr σ1 (dw o s)) d) v;rw[s2 d ho];exact yw c' hP hG
 ·show mL (wr σ1 (dw o s)) (slot (wr σ1 (dw o s)) d);rw[s2 d ho];intro n kF;rw[key];split
  ·simp
  ·rename_i h;exact(AH n kF).resolve_left h
theorem tl(cf:Ok E σ w c)(dJ:fC E σ a w c){o:fA}(hd:∀d,o.dst=ah d->d<a.tmps.size){nm:aE}{ob ob':Obj}{s:SV}{v:bj}{w':bK}
  (hn:σ (c_ nm)= .o ob) (mS:pJ E w' c nm ob') (pN:∀b,fN c nm ob' b->fN c nm ob b)
  (IG:∀xs,ob'= .box xs->∀a∈xs,jf σ a)
  (yw:jh E w' c s v) (AH:mL σ s)
  (hW:∀b,b<w.heap.size->¬fN c nm ob b->w'.heap[b]? =w.heap[b]?) (gi:w.heap.size<=w'.heap.size) (OV:w'.os=w.os) (Xc:w'.tape=w.tape) (W7:w'.output=w.output)
  (hr:(execOp a.eval o).run P w= .ok (.value v) w'\/((execOp a.eval o).run P w= .ok .skip w'/\v=undef)):gU P E σ a w c o ([(c_ nm, .o ob')]++dw o s):=by
 intro K Q hK;let σ1:=pG σ (c_ nm) (.o ob');obtain⟨s1,s2,s3⟩:=rP σ1 o s;have key:∀m,wr σ1 (dw o s) (c_ m)=if m=nm then .o ob' else σ (c_ m):=λm=>by rw[s3];exact pU _ _ _ _
 have iw:∀m,σ (c_ m)≠ .jX->wr σ1 (dw o s) (c_ m)≠ .jX:=λm hm=>by rw[key];split<;>simp_all
 have gz:∀b,fN c nm ob b->jZ (λm=>m=nm) σ c b:=λb hb=>⟨nm,ob,rfl,hn,hb⟩
 have hh:=cf.change (σ':=wr σ1 (dw o s)) (w':=w') (c':=c) (λm=>m=nm) (λm hm=>by rw[key,bG hm]) iw (jA.refl _ _)
  (λb hb W6=>hW b hb (λhf=>W6 (gz b hf))) gi (λ_ h=>h) (λ_ h=> .inl h) (λb hb=>jt (cf.lt b hb) gi)
  (λm x hm ho=>by subst hm;rw[key,bw rfl]at ho;cases ho;exact mS)
  (λm x b hm ho hf=>by subst hm;rw[key,bw rfl]at ho;cases ho;exact⟨.inl (gz b (pN b hf)),cf.kk _ _ b hn (pN b hf)⟩)
  (λm x m' x' b hm w_ _ _ _ _=>by rw[hm,w_])
  (λm xs hm ho y hy n kF=>by subst hm;rw[key,bw rfl]at ho;cases ho;exact iw n (IG xs rfl y hy n kF)) OV Xc W7
 have aiU:fC E (wr σ1 (dw o s)) (a.put o.dst v) w' c:=by
  refine dJ.change cf hh.2 (jA.refl _ _) iw o v (λn kF=>by rw[s1 n kF];exact jl _ _ _ _) (λd ho=>⟨hd d ho, ?_, ?_⟩)
  ·rw[s2 d ho];exact yw
  ·rw[s2 d ho];intro n kF;rw[key];split
   ·simp
   ·exact AH n kF
 rcases hr with hr|⟨hr,rfl⟩
 ·exact yo hr (hK v w' c hh.1 aiU hh.2 (jA.refl _ _).w)
 ·exact CY hr (hK undef w' c hh.1 aiU hh.2 (jA.refl _ _).w)
end
end Go.FG

namespace Go.FG
theorem ad2:∀{x y:Ck},ckB x y=ai->x=y:=by intro x y h;cases x<;>cases y<;>simp[ckB]at h<;>first|rfl|(subst h;rfl)|(have:=aU h;subst this;rfl)
theorem rC:∀{a b:aC Ck},qc a b=ai->a=b
 |[],[],_=>rfl
 |[],_::_,h=>by simp[qc]at h
 |_::_,[],h=>by simp[qc]at h
 |x::l,y::r,h=>by
  simp only[qc,aL]at h;rw[ad2 h.1,rC h.2]
structure aqX (E:fU) (w:bK) (K:aE->Prop) (b o n c e:aE) (xs:aQ) (ti:TI) (U:aE->aE->bj):Prop where
 nn:n=xs.length
 ty:E.ty e=ah ti
 cap:xs.length<=c
 mx:c<=maxLen
 kb:K b
 sh:∀y∈xs,y.map CV.kd=ti.ks
 cell:∀i j y x,xs[i]? =ah y->y[j]? =ah x->w.cell? (ad b (o+i*ti.ks.length+j))=ah (U i j)
 inn:∀i j y x,xs[i]? =ah y->y[j]? =ah x->da E w K (U i j) x
theorem da.IY{E:fU}{w:bK}{K:aE->Prop}{b o n c e:aE}{xs:aQ}(h:da E w K (.slice (ah (ad b o)) n c) (.l e xs))(hn:0<xs.length):∃ti U,aqX E w K b o n c e xs ti U:=by
 generalize hv:Value.slice (ah (ad b o)) n c=v at h;generalize hx:CV.l e xs=x at h;cases h with
 |i=>cases hx
 |b=>cases hx
 |s=>cases hx
 |nl=>cases hx;simp at hn
 |l e xs b o c ti U ht hc hm hK hs hcell gz=>cases hx;cases hv;exact⟨ti,U,rfl,ht,hc,hm,hK,hs,hcell,gz⟩
theorem Kn{E:fU}{w:bK}{c:eZ}{u:bj}{x:CV}(h:da E w c.K u x):eG E w c (dec x.kd x) u:=by
 cases x with
 |i k n=>cases h;rfl
 |b=>cases h;rfl
 |s=>cases h with|s _ ho=>exact⟨rfl,ho⟩
 |l e xs=>exact h
theorem Ns{E:fU}{w:bK}{c:eZ}{u:bj}{x:CV}(h:da E w c.K u x):eG E w c (YG x) u:=by
 cases x with
 |i k n=>cases h;rfl
 |b=>cases h;rfl
 |s=>cases h with|s _ ho=>exact⟨rfl,ho⟩
 |l e xs=>exact h
theorem o6{E:fU}{w:bK}{c:eZ}{u:bj}{x:CV}(hl:uj x=ak)(h:Sc u x):eG E w c (dec x.kd x) u:=by
 cases x with
 |i=>exact h.1
 |b=>exact h.1
 |s=>exact h
 |l=>simp[uj]at hl
theorem O9(k:Ck)(x:CV):bN (dec k x)=[]:=by cases k<;>rfl
theorem Cj(x:CV):bN (YG x)=[]:=by cases x<;>rfl
theorem lN(xs:aQ)(i:aE):∀(ks:aC Ck) (j q:aE),(uV xs i j ks)[q]? =(ks[q]?).map λk=>dec k (ar xs i (j+q)):=by
 intro ks;induction ks with
 |nil=>intro j q;simp[uV]
 |cons k ks ih=>
  intro j q;cases q with
  |zero=>simp[uV]
  |succ q=>simp only[uV,dO,ih];congr 2;funext k;congr 2;omega
theorem Ih(nm:aE)(xs:aQ)(i:aE):∀(ks:aC Ck) (j q:aE),(AD nm xs i j ks)[q]? =(ks[q]?).map λk=>match k with| .l _=>AV.inn nm i (j+q)|k=>dec k (ar xs i (j+q)):=by
 intro ks;induction ks with
 |nil=>intro j q;simp[AD]
 |cons k ks ih=>
  intro j q;cases q with
  |zero=>cases k<;>simp[AD]
  |succ q=>
   have e:j+1+q=j+(q+1):=by omega
   cases k<;>simp only[AD,dO,ih,e]
theorem fD{xs:aQ}{i j:aE}{y:aC CV}{x:CV}(hi:xs[i]? =ah y)(hj:y[j]? =ah x):ar xs i j=x:=by simp[ar,j_,hi,hj]
theorem kI(xs:aQ)(i:aE):∀(ks:aC Ck) (j:aE),(uV xs i j ks).length=ks.length:=by
 intro ks;induction ks with
 |nil=>intro j;rfl
 |cons k ks ih=>intro j;simp[uV,ih]
theorem zY(nm:aE)(xs:aQ)(i:aE):∀(ks:aC Ck) (j:aE),(AD nm xs i j ks).length=ks.length:=by
 intro ks;induction ks with
 |nil=>intro j;rfl
 |cons k ks ih=>intro j;cases k<;>simp[AD,ih]
theorem qE{ks ks2:aC Ck}{j:aE}{y:aC CV}(hy:y.map CV.kd=ks)(h:(ks.drop j).take ks2.length=ks2){q:aE}(hq:q<ks2.length):∃x,y[j+q]? =ah x/\ks2[q]? =ah x.kd:=by
 have h1:ks2[q]? =ks[j+q]? :=by rw[<-h,d_,bw hq,dR]
 rw[<-hy,bJ]at h1;cases hx:y[j+q]? with
 |none=>rw[hx]at h1;simp at h1;omega
 |some x=>exact⟨x,rfl,by rw[h1,hx];rfl⟩
section
variable {P:cZ} {E:fU} {σ:St} {a:Act} {w:bK} {c:eZ}
theorem uw{p:Pl}{G:aE->aE->Pl}{xs:aQ}{ks:aC Ck}{i j e2:aE}(gh:jg w p xs (λi j u x=>if ai=ai then XC E w G i j u x else da E w c.K u x))(mG:∀y∈xs,y.map CV.kd=ks)(hi:i<p.n)(hk:ks[j]? =ah (.l e2)):
  ∃ys y,xs[i]? =ah y/\y[j]? =ah (.l e2 ys)/\∃u,XC E w G i j u (.l e2 ys):=by
 have lZ:i<xs.length:=by rw[<-gh.n];exact hi
 have hy:xs[i]? =ah xs[i]:=by simp[lZ]
 have h1:=mG xs[i] (bA lZ);rw[<-h1,bJ]at hk;cases hx:xs[i][j]? with
 |none=>rw[hx]at hk;cases hk
 |some x=>
  rw[hx]at hk;cases x with
  |l e ys=>
   cases hk;have jv:p.nil=false:=by
    cases hn:p.nil with
    |false=>rfl
    |true=>have:=(gh.nil hn).1;subst this;simp at lZ
   obtain⟨vals,_,_,_,_,pw⟩:=gh.mem jv;obtain⟨u,_,hr⟩:=pw i _ j _ hy hx;rw[bw rfl]at hr;exact⟨ys,_,hy,hx,u,hr⟩
  |i=>cases hk
  |b=>cases hk
  |s=>cases hk
theorem iq{ks:aC Ck}(h:plain ks=ai){y:aC CV}(hy:y.map CV.kd=ks){j:aE}{x:CV}(hx:y[j]? =ah x):uj x=false:=by
 have h1:x.kd∈ks:=by rw[<-hy];exact cX.2 ⟨x,aR hx,rfl⟩
 have h2:=bu.1 h _ h1;cases x<;>simp_all [CV.kd,uj]
structure Rx (E:fU) (σ:St) (w:bK) (c:eZ) (ti:TI) (v:bj) (xs:aC AV):Prop where
 ex:∃(b o:aE) (cs:aC bj),v= .pointer (ah (ad b o))/\cs.length=ti.ks.length/\(∀(j:aE) (u:bj),cs[j]? =ah u->w.cell? (ad b (o+j))=ah u)/\
  xs.length=ti.ks.length/\(∀(j:aE) (x:AV),xs[j]? =ah x->∃u:bj,cs[j]? =ah u/\eG E w c x u)
 kn:∀x∈xs,jf σ x
theorem mw{ti:TI}{b o:aE}{xs:aC AV}(hl:xs.length=ti.ks.length)(h:∀(j:aE) (x:AV),xs[j]? =ah x->∃u:bj,w.cell? (ad b (o+j))=ah u/\eG E w c x u)(hk:∀x∈xs,jf σ x):
  Rx E σ w c ti (.pointer (ah (ad b o))) xs:=by
 refine⟨⟨b,o,(cR xs.length).map (λj=>(w.cell? (ad b (o+j))).getD undef),rfl,by simp[hl], ?_,hl, ?_⟩,hk⟩
 ·intro j u hu;simp only[bJ]at hu;by_cases hj:j<xs.length
  ·obtain⟨u',r_,_⟩:=h j xs[j] (by simp[hj]);simp only[hj,vE,jc,r_,yI,jx]at hu;rw[r_,hu]
  ·simp[kT (l:=cR xs.length) (by simpa using hj)]at hu
 ·intro j x hx;obtain⟨u,hu,hv⟩:=h j x hx;refine⟨u, ?_,hv⟩
  have hj:j<xs.length:=(aT.1 hx).1;simp[hj,hu]
theorem Tf(cf:Ok E σ w c){ti:TI}{p:AV}{v:bj}{xs:aC AV}(hp:eG E w c p v)(h:(tv E ti p).val σ=ah xs):Rx E σ w c ti v xs:=by
 have YE:∀(n:aE) (k:Ck) (x:CV),n∈bN (dec k x)->σ (c_ n)≠ .jX:=λn k x hn=>by rw[O9]at hn;simp at hn
 cases p with
 |bp nm j=>
  obtain⟨o,ho,h2⟩:=Rd.bind_some h;have mS:=cf.obj nm o (dy ho);obtain rfl:v=_:=hp;cases o with
  |box ys=>
   obtain⟨hle,h3⟩:=cM h2;have hle:=cG hle;obtain rfl:=aJ h3;obtain⟨vals,hb,hs,hc⟩:=mS;refine mw (by simp;omega) (λq x hx=> ?_) (λx hx=>cf.kn nm ys (dy ho) x (kU (kV hx)));rw[d_]at hx;split at hx
   ·rw[dR]at hx;obtain⟨u,hu,hv⟩:=hc (j+q) x hx;exact⟨u,(hb.cell (j+q)).trans hu,hv⟩
   ·cases hx
  |nX cs=>
   obtain⟨hle,h3⟩:=cM h2;have hle:=cG hle;obtain rfl:=aJ h3;refine mw (by simp;omega) (λq x hx=> ?_) (λx hx=> ?_)
   ·rw[bJ,d_]at hx;split at hx
    ·rw[dR]at hx;cases hy:cs[j+q]? with
     |none=>rw[hy]at hx;cases hx
     |some y=>rw[hy]at hx;cases hx;obtain⟨u,hu,hv⟩:=mS.2 (j+q) y hy;exact⟨u,hu,Ns hv⟩
    ·cases hx
   ·obtain⟨y,_,rfl⟩:=cX.1 hx;intro n hn;rw[Cj]at hn;simp at hn
  |row=>simp at h2
  |fV=>simp at h2
  |dead=>simp at h2
 |fp cs j=>
  obtain⟨hle,h3⟩:=cM h;have hle:=cG hle;obtain rfl:=aJ h3;obtain⟨b,rfl,hb⟩:=hp;refine mw (by simp;omega) (λq x hx=> ?_) (λx hx=> ?_)
  ·rw[bJ,d_]at hx;split at hx
   ·rw[dR]at hx;cases hy:cs[j+q]? with
    |none=>rw[hy]at hx;cases hx
    |some y=>rw[hy]at hx;cases hx;obtain⟨u,hu,hv⟩:=hb.2 (j+q) y hy;exact⟨u,hu,Ns hv⟩
   ·cases hx
  ·obtain⟨y,_,rfl⟩:=cX.1 hx;intro n hn;rw[Cj]at hn;simp at hn
 |sp e ys i j=>
  obtain⟨te,ht,h2⟩:=Rd.bind_some h;have ht:=dX ht;obtain⟨hk,h3⟩:=cM h2;have hk:=rC hk;obtain rfl:=aJ h3;obtain⟨b,o,cp,ti2,hh,hi,GK,rfl⟩:=hp;obtain rfl:te=ti2:=aJ (ht.symm.trans GK);refine mw (kI _ _ _ _) (λq x hx=> ?_) (λx hx=> ?_)
  ·rw[lN]at hx;obtain⟨ti3,U,hL⟩:=hh.IY (by omega);obtain rfl:te=ti3:=aJ (ht.symm.trans hL.ty);have hq:q<ti.ks.length:=by
    cases hq:ti.ks[q]? with
    |none=>rw[hq]at hx;cases hx
    |some k=>exact(aT.1 hq).1
   have hy:ys[i]? =ah ys[i]:=by simp[hi]
   obtain⟨z,hz,vT⟩:=qE (hL.sh ys[i] (bA hi)) hk hq;rw[vT]at hx;cases hx;rw[fD hy hz];exact⟨U i (j+q),by have:=hL.cell i (j+q) _ z hy hz;rwa[show o+i*te.ks.length+j+q=o+i*te.ks.length+(j+q)by omega],Kn (hL.inn i (j+q) _ z hy hz)⟩
  ·obtain⟨q,hq⟩:=bX hx;rw[lN]at hq;cases vT:ti.ks[q]? with
   |none=>rw[vT]at hq;cases hq
   |some k=>rw[vT]at hq;cases hq;intro n hn;exact YE n _ _ hn
 |rp nm i j=>
  obtain⟨o,ho,h2⟩:=Rd.bind_some h;have ho:=dy ho;have mS:=cf.obj nm o ho;obtain⟨hi,rfl⟩:=hp;cases o with
  |row e ex ys=>
   obtain⟨te,ht,h2⟩:=Rd.bind_some h2;have ht:=dX ht;obtain⟨hk,h3⟩:=cM h2;have hk:=rC hk;have h3:(ex=ai/\plain ti.ks=ai/\xs=uV ys i j ti.ks)\/((ex=ak\/zo nm=ak)/\xs=bif ex then AD nm ys i j ti.ks else uV ys i j ti.ks):=by
    cases hF:(ex&&zo nm)with
    |true=>rw[hF,au]at h3;obtain⟨sL,h3⟩:=cM h3;rw[aL]at hF;exact .inl ⟨hF.1,sL,(aJ h3).symm⟩
    |false=>
     rw[hF,ay]at h3;refine .inr ⟨?_,(aJ h3).symm⟩;cases ex with
     |false=>exact .inl rfl
     |true=>exact .inr (by simpa using hF)
   obtain⟨⟨ti2,GK,gi,mG⟩,gh,_⟩:=mS;obtain rfl:te=ti2:=aJ (ht.symm.trans GK);have jv:(c.P nm).nil=false:=by
    cases hn:(c.P nm).nil with
    |false=>rfl
    |true=>have:=(gh.nil hn).1;subst this;rw[gh.n]at hi;simp at hi
   obtain⟨vals,hb,Sj,_,mD,pw⟩:=gh.mem jv;have lZ:i<ys.length:=by rw[<-gh.n];exact hi
   have hy:ys[i]? =ah ys[i]:=by simp[lZ]
   rcases h3 with ⟨rfl,sL,rfl⟩|h3
   ·refine mw (kI _ _ _ _) (λq x hx=> ?_) (λx hx=> ?_)
    ·have hq:q<ti.ks.length:=by have:=(aT.1 hx).1;simpa [kI]using this
     obtain⟨z,hz,vT⟩:=qE (mG ys[i] (bA lZ)) hk hq;obtain⟨u,hu,hr⟩:=pw i _ (j+q) z hy hz;rw[bw rfl]at hr;rw[lN,vT]at hx;cases hx;refine⟨u, ?_, ?_⟩
     ·rw[hb.cell];rw[<-hu];congr 1;omega
     ·have hzk:=bu.1 sL z.kd (aR vT);show eG E w c (dec z.kd (ar ys i (j+q))) u;rw[fD hy hz];cases z with
      |l e2 zs=>cases hzk
      |i k n=>exact o6 rfl hr
      |b t=>exact o6 rfl hr
      |s t=>exact o6 rfl hr
    ·obtain⟨q,hq⟩:=bX hx;intro n hn;rw[lN]at hq;cases vT:ti.ks[q]? with
     |none=>rw[vT]at hq;cases hq
     |some k=>rw[vT]at hq;cases hq;exact YE n _ _ hn
   obtain⟨hFn,rfl⟩:=h3;refine mw (by cases ex<;>simp[kI,zY]) (λq x hx=> ?_) (λx hx=> ?_)
   ·have hq:q<ti.ks.length:=by have:=(aT.1 hx).1;cases ex<;>simpa [kI,zY]using this
    obtain⟨z,hz,vT⟩:=qE (mG ys[i] (bA lZ)) hk hq;obtain⟨u,hu,hr⟩:=pw i _ (j+q) z hy hz;refine⟨u, ?_, ?_⟩
    ·rw[hb.cell];rw[<-hu];congr 1;omega
    ·cases ex with
     |false=>rw[bG (by simp)]at hr;have hx:(uV ys i j ti.ks)[q]? =ah x:=hx;rw[lN,vT]at hx;cases hx;rw[fD hy hz];exact Kn hr
     |true=>
      rw[bw rfl]at hr;have hx:(AD nm ys i j ti.ks)[q]? =ah x:=hx;rw[Ih,vT]at hx;cases z with
      |l e2 zs=>cases hx;exact⟨⟨hi,hr.1⟩,hFn.resolve_left (by simp)⟩
      |i k n=>cases hx;rw[fD hy hz];exact o6 rfl hr
      |b t=>cases hx;rw[fD hy hz];exact o6 rfl hr
      |s t=>cases hx;rw[fD hy hz];exact o6 rfl hr
   ·obtain⟨q,hq⟩:=bX hx;intro n hn;cases ex with
    |false=>
     have hq:(uV ys i j ti.ks)[q]? =ah x:=hq;rw[lN]at hq;cases vT:ti.ks[q]? with
     |none=>rw[vT]at hq;cases hq
     |some k=>rw[vT]at hq;cases hq;exact YE n _ _ hn
    |true=>
     have hq:(AD nm ys i j ti.ks)[q]? =ah x:=hq;rw[Ih]at hq;cases vT:ti.ks[q]? with
     |none=>rw[vT]at hq;cases hq
     |some k=>
      rw[vT]at hq;cases k with
      |l e2=>cases hq;simp[bN]at hn;subst hn;rw[ho];simp
      |i=>cases hq;exact YE n _ _ hn
      |b=>cases hq;exact YE n _ _ hn
      |s=>cases hq;exact YE n _ _ hn
      |o=>cases hq;exact YE n _ _ hn
  |fV e ys=>
   obtain⟨te,ht,h2⟩:=Rd.bind_some h2;have ht:=dX ht;obtain⟨hk,h3⟩:=cM h2;have hk:=rC hk;obtain rfl:=aJ h3;obtain⟨hh,hn,ti2,GK,gi⟩:=mS;obtain rfl:te=ti2:=aJ (ht.symm.trans GK);have lZ:i<ys.length:=by rw[<-hn];exact hi
   have hy:ys[i]? =ah ys[i]:=by simp[lZ]
   have jv:(c.P nm).nil=false:=by
    cases hq:(c.P nm).nil with
    |false=>rfl
    |true=>unfold lO at hh;rw[bw hq]at hh;cases hh;simp at lZ
   unfold lO at hh;rw[bG (by simp[jv]),hn]at hh;refine mw (kI _ _ _ _) (λq x hx=> ?_) (λx hx=> ?_)
   ·rw[lN]at hx;obtain⟨ti3,U,hL⟩:=hh.IY (by omega);obtain rfl:te=ti3:=aJ (ht.symm.trans hL.ty);have hq:q<ti.ks.length:=by
     cases hq:ti.ks[q]? with
     |none=>rw[hq]at hx;cases hx
     |some k=>exact(aT.1 hq).1
    obtain⟨z,hz,vT⟩:=qE (hL.sh ys[i] (bA lZ)) hk hq;rw[vT]at hx;cases hx;rw[fD hy hz];exact⟨U i (j+q),by have:=hL.cell i (j+q) _ z hy hz;rw[<-this];congr 2;rw[gi];omega,Kn (hL.inn i (j+q) _ z hy hz)⟩
   ·obtain⟨q,hq⟩:=bX hx;rw[lN]at hq;cases vT:ti.ks[q]? with
    |none=>rw[vT]at hq;cases hq
    |some k=>rw[vT]at hq;cases hq;intro n hn;exact YE n _ _ hn
  |box=>simp at h2
  |nX=>simp at h2
  |dead=>simp at h2
 |ip nm i j i2 j2=>
  obtain⟨o,ho,h2⟩:=Rd.bind_some h;have ho:=dy ho;have mS:=cf.obj nm o ho;obtain⟨⟨j7,hi,rfl⟩,hFp⟩:=hp;cases o with
  |row e ex ys=>
   cases ex with
   |false=>simp at h2
   |true=>
    obtain⟨te,ht,h2⟩:=Rd.bind_some h2;have ht:=dX ht;split at h2
    ·rename_i e2 zW;obtain⟨t2,GK,h2⟩:=Rd.bind_some h2;have GK:=dX GK;obtain⟨hk,h3⟩:=cM h2;have hk:=rC hk;obtain rfl:=aJ h3;obtain⟨⟨tj,htj,gi,mG⟩,gh,_⟩:=mS;obtain rfl:te=tj:=aJ (ht.symm.trans htj);obtain⟨zs,y,hy,hyj,uu,_,tk,GL,sL,KS,DF,oF⟩:=uw (c:=c) gh mG j7 zW;obtain rfl:t2=tk:=aJ (GK.symm.trans GL);rw[fD hy hyj];refine mw (kI _ _ _ _) (λq x hx=> ?_) (λx hx=> ?_)
     ·rw[lN]at hx;have hq:q<ti.ks.length:=by
       cases hq:ti.ks[q]? with
       |none=>rw[hq]at hx;cases hx
       |some k=>exact(aT.1 hq).1
      have GF:i2<zs.length:=by rw[<-oF.n];exact hi
      have Cb:(c.G nm i j).nil=false:=by
       cases hn:(c.G nm i j).nil with
       |false=>rfl
       |true=>have:=(oF.nil hn).1;subst this;simp at GF
      obtain⟨vals,hb,_,_,_,pw⟩:=oF.mem Cb;have hzi:zs[i2]? =ah zs[i2]:=by simp[GF]
      obtain⟨z,hz,vT⟩:=qE (DF zs[i2] (bA GF)) hk hq;obtain⟨u,hu,hr⟩:=pw i2 _ (j2+q) z hzi hz;rw[vT]at hx;cases hx;refine⟨u, ?_, ?_⟩
      ·rw[hb.cell,<-hu];congr 1;omega
      ·show eG E w c (dec z.kd (ar zs i2 (j2+q))) u;rw[fD hzi hz];exact o6 (iq sL (DF _ (bA GF)) hz) hr
     ·obtain⟨q,hq⟩:=bX hx;rw[lN]at hq;cases vT:ti.ks[q]? with
      |none=>rw[vT]at hq;cases hq
      |some k=>rw[vT]at hq;cases hq;intro n hn;exact YE n _ _ hn
    ·simp at h2
  |fV=>simp at h2
  |box=>simp at h2
  |nX=>simp at h2
  |dead=>simp at h2
 |i=>simp[tv]at h
 |b=>simp[tv]at h
 |s=>simp[tv]at h
 |sh=>simp[tv]at h
 |nl=>simp[tv]at h
 |own=>simp[tv]at h
 |vw=>simp[tv]at h
 |inn=>simp[tv]at h
 |fn=>simp[tv]at h
end
end Go.FG

namespace Go.FG
section
variable {P:cZ} {E:fU} {σ:St} {a:Act} {w:bK} {c:eZ} {o:fA} {nm:aE} {e:sO}
theorem iW{s:Sem bj}{v:bj}{w':bK}(hr:s.run P w= .ok v w'):(do pure (Next.value (<-s)):Sem Next).run P w= .ok (.value v) w':=by simp only[ch,hr,bF,cS]
theorem f_(cf:Ok E σ w c)(dJ:fC E σ a w c)(hd:∀d,o.dst=ah d->d<a.tmps.size){s:SV}{v:bj}(h:(val o s).val σ=ah e)(hs:jh E w c s v)(hk:mL σ s)(hr:(execOp a.eval o).run P w= .ok (.value v) w):gU P E σ a w c o e.ws:=by obtain rfl:=aJ h;exact gF cf dJ hd hs hk hr
theorem EX(cf:Ok E σ w c)(dJ:fC E σ a w c)(hd:∀d,o.dst=ah d->d<a.tmps.size){b:aW}{x:AV}{v:bj}(h:(LH o b x).val σ=ah e)(hc:e.cond=ai)(hs:b=ai->eG E w c x v)(hk:jf σ x)(hr:b=ai->(execOp a.eval o).run P w= .ok (.value v) w):gU P E σ a w c o e.ws:=by obtain rfl:=aJ h;have hc:b=true:=hc;exact gF cf dJ hd (hs hc) (λn hn=>hk n (by simpa [cJ]using hn)) (hr hc)
theorem uk{σ:St}{x:AV}(h:bN x=[]):jf σ x:=λn hn=>by rw[h]at hn;simp at hn
theorem Nv(cf:Ok E σ w c)(dJ:fC E σ a w c)(hd:∀d,o.dst=ah d->d<a.tmps.size){x:dx}(ho:o.op= .move x\/o.op= .assign x)(h:(l_ E nm o).val σ=ah e):gU P E σ a w c o e.ws:=by
 have h':((GZ x).bind λv=>val o v).val σ=ah e:=by rcases ho with ho|ho<;>simpa [l_,ho]using h
 obtain⟨v,h1,h2⟩:=Rd.bind_some h';obtain⟨hv,hk⟩:=mm dJ h1;refine f_ cf dJ hd h2 hv hk ?_;rcases ho with ho|ho<;>(unfold execOp;rw[ho];rfl)
theorem Je(cf:Ok E σ w c)(dJ:fC E σ a w c)(hd:∀d,o.dst=ah d->d<a.tmps.size){x:dx}(ho:o.op= .nilCheck x)(h:(l_ E nm o).val σ=ah e):gU P E σ a w c o e.ws:=by
 simp only[l_,ho]at h;obtain⟨p,h1,h⟩:=Rd.bind_some h;obtain⟨ex,kx⟩:=iX dJ h1;cases p with
 |bp n j=>have uh:a.eval x= .pointer (ah (ad (c.P n).blk j)):=ex;refine f_ cf dJ hd h (v:=a.eval x) ex (λn hn=>kx n (by simpa [cJ]using hn)) ?_;unfold execOp;rw[ho];simp only[uh];rfl
 |rp n i j=>have uh:a.eval x= .pointer (ah (ad (c.P n).blk ((c.P n).off+i*(c.P n).sz+j))):=ex.2;refine f_ cf dJ hd h (v:=a.eval x) ex (λn hn=>kx n (by simpa [cJ]using hn)) ?_;unfold execOp;rw[ho];simp only[uh];rfl
 |_=>cases h
theorem YO(cf:Ok E σ w c)(dJ:fC E σ a w c)(hd:∀d,o.dst=ah d->d<a.tmps.size){x y z:dx}(ho:o.op= .pick x y z)(h:(l_ E nm o).val σ=ah e)(hc:e.cond=ai):gU P E σ a w c o e.ws:=by
 simp only[l_,ho]at h;obtain⟨cx,h1,h⟩:=Rd.bind_some h;obtain⟨vy,h2,h⟩:=Rd.bind_some h;obtain⟨vz,h3,h⟩:=Rd.bind_some h;obtain⟨ex,kx⟩:=iX dJ h1;obtain⟨ey,ky⟩:=mm dJ h2;obtain⟨ez,kz⟩:=mm dJ h3;have run:∀b,a.eval x= .bool b->(execOp a.eval o).run P w= .ok (.value (if b then a.eval y else a.eval z)) w:=by intro b hb;unfold execOp;rw[ho];simp only[hb,asBool,ch,cS,bF]
 cases cx with
 |b b=>
  replace ex:a.eval x= .bool b:=ex;have both:∀p q,vy= .v ak [.b p]->vz= .v ak [.b q]->gU P E σ a w c o e.ws:=by
   rintro p q rfl rfl;refine f_ cf dJ hd h (v:=if b then a.eval y else a.eval z) ?_ (λn hn=>by simp[cJ,bN]at hn) (run b ex);cases b
   ·exact ez
   ·exact ey
  have lft:vy= .j9 []->gU P E σ a w c o e.ws:=by
   rintro rfl;replace h:(Rd.ret (⟨!b,dw o vz⟩:sO)).val σ=ah e:=by cases vz<;>exact h
   obtain rfl:=aJ h;have hb:b=false:=by simpa using hc
   subst hb;exact gF cf dJ hd ez kz (run ak ex)
  have rgt:vz= .j9 []->vy≠ .j9 []->gU P E σ a w c o e.ws:=by
   rintro rfl iw;replace h:(Rd.ret (⟨b,dw o vy⟩:sO)).val σ=ah e:=by
    cases vy with
    |un=>exact h
    |j9 l=>cases l with
     |nil=>exact cO rfl iw
     |cons=>exact h
    |v g xs=>cases g<;>(rcases xs with _|⟨⟨⟩,_|⟨_,_⟩⟩<;>exact h)
   obtain rfl:=aJ h;have hb:b=true:=hc;subst hb;exact gF cf dJ hd ey ky (run ai ex)
  cases vy with
  |un=>cases vz with
   |un=>simp at h
   |j9 l=>cases l with
    |nil=>exact rgt rfl (by simp)
    |cons=>simp at h
   |v=>simp at h
  |j9 l=>cases l with
   |nil=>exact lft rfl
   |cons=>cases vz with
    |un=>simp at h
    |j9 l2=>cases l2 with
     |nil=>exact rgt rfl (by simp)
     |cons=>simp at h
    |v=>simp at h
  |v g xs=>cases vz with
   |un=>simp at h
   |j9 l2=>cases l2 with
    |nil=>exact rgt rfl (by simp)
    |cons=>simp at h
   |v g2 ys=>cases g<;>cases g2<;>rcases xs with _|⟨⟨⟩,_|⟨_,_⟩⟩<;>rcases ys with _|⟨⟨⟩,_|⟨_,_⟩⟩<;>first|(simp at h;done)|exact both _ _ rfl rfl
 |i=>simp at h
 |s=>simp at h
 |sh=>simp at h
 |nl=>simp at h
 |own=>simp at h
 |vw=>simp at h
 |bp=>simp at h
 |rp=>simp at h
 |sp=>simp at h
 |inn=>simp at h
 |ip=>simp at h
 |fn=>simp at h
 |fp=>simp at h
theorem YN(hE:eC P E)(cf:Ok E σ w c)(dJ:fC E σ a w c)(hd:∀d,o.dst=ah d->d<a.tmps.size){t:aE}{p:dx}(ho:o.op= .load t p)(h:(l_ E nm o).val σ=ah e):gU P E σ a w c o e.ws:=by
 simp only[l_,ho]at h;obtain⟨ti,h1,h⟩:=Rd.bind_some h;obtain⟨pv,h2,h⟩:=Rd.bind_some h;obtain⟨xs,h3,h⟩:=Rd.bind_some h;have ht:=dX h1;obtain⟨ep,_⟩:=iX dJ h2;obtain⟨⟨b,of,cs,hv,hl,hcell,hlen,VP⟩,IG⟩:=Tf cf ep h3;have hr:=CL (P:=P) w hE ht hl hcell;refine f_ cf dJ hd h (v:=if ti.agg=ai then .agg cs.toArray else cs.headD .nilIface) ?_ (λn hn=>by obtain⟨x,hx,hn⟩:=bL.1 hn;exact IG x hx n hn) ?_
 ·show qa E w c ti.agg xs _;cases ui:ti.agg with
  |true=>rw[bw rfl];exact⟨cs.toArray,rfl,by simp[hl,hlen],λj x hj=>by obtain⟨u,hu,hx⟩:=VP j x hj;exact⟨u,by simpa using hu,hx⟩⟩
  |false=>
   obtain⟨d,_,_,hn⟩:=hE.desc t ti ht;have h1:ti.ks.length=1:=by rcases hn ui with ⟨k,h,_⟩|⟨h,_⟩|⟨h,_⟩|⟨e',h,_⟩|⟨h,_⟩<;>simp[h]
   obtain⟨x,rfl⟩:=gV.1 (hlen.trans h1);obtain⟨v,rfl⟩:=gV.1 (hl.trans h1);obtain⟨u,hu,hx⟩:=VP 0 x rfl;simp at hu;subst hu;simpa [qa]using hx
 ·unfold execOp;rw[ho];exact iW (by rw[hv];exact hr)
theorem GW(hE:eC P E)(cf:Ok E σ w c)(dJ:fC E σ a w c)(hd:∀d,o.dst=ah d->d<a.tmps.size){t f:aE}{p:dx}(ho:o.op= .fieldAddr t p f)(h:(l_ E nm o).val σ=ah e):gU P E σ a w c o e.ws:=by
 simp only[l_,ho]at h;obtain⟨pv,h1,h⟩:=Rd.bind_some h;obtain⟨q,h2,h⟩:=Rd.bind_some h;obtain⟨ep,kp⟩:=iX dJ h1;unfold R2 at h2;cases hf:E.fo t f with
 |none=>rw[hf]at h2;simp at h2
 |some r=>
  obtain⟨off,n⟩:=r;rw[hf]at h2;have run:∀b o',a.eval p= .pointer (ah (ad b o'))->(execOp a.eval o).run P w= .ok (.value (.pointer (ah (ad b (o'+off))))) w:=by intro b o' hp;unfold execOp;rw[ho];exact iW (by rw[hp];exact Jn (P:=P) w hE hf b o')
  cases pv with
  |bp iC j=>obtain rfl:=aJ h2;exact f_ cf dJ hd h (s:= .v ak [.bp iC (j+off)]) (v:= .pointer (ah (ad (c.P iC).blk (j+off)))) rfl (λn hn=>kp n (by simpa [cJ,bN]using hn)) (run _ _ ep)
  |rp iC i j=>obtain rfl:=aJ h2;refine f_ cf dJ hd h (s:= .v ak [.rp iC i (j+off)]) ?_ (λn hn=>kp n (by simpa [cJ,bN]using hn)) (run _ _ ep.2);exact⟨ep.1,by rw[show(c.P iC).off+i*(c.P iC).sz+j+off=(c.P iC).off+i*(c.P iC).sz+(j+off)by omega]⟩
  |sp e2 xs i j=>obtain rfl:=aJ h2;obtain⟨b,o',cp,ti,e1,WI,e3,e4⟩:=ep;refine f_ cf dJ hd h (s:= .v ak [.sp e2 xs i (j+off)]) ?_ (λn hn=>by simp[cJ,bN]at hn) (run _ _ e4);exact⟨b,o',cp,ti,e1,WI,e3,by rw[show o'+i*ti.ks.length+j+off=o'+i*ti.ks.length+(j+off)by omega]⟩
  |ip iC i j i2 j2=>obtain rfl:=aJ h2;refine f_ cf dJ hd h (s:= .v ak [.ip iC i j i2 (j2+off)]) ?_ (λn hn=>kp n (by simpa [cJ,bN]using hn)) (run _ _ ep.1.2.2);exact⟨⟨ep.1.1,ep.1.2.1,by rw[show(c.G iC i j).off+i2*(c.G iC i j).sz+j2+off=(c.G iC i j).off+i2*(c.G iC i j).sz+(j2+off)by omega]⟩,ep.2⟩
  |fp cs j=>obtain rfl:=aJ h2;obtain⟨b,e1,WI⟩:=ep;exact f_ cf dJ hd h (s:= .v ak [.fp cs (j+off)]) ⟨b,rfl,WI⟩ (λn hn=>by simp[cJ,bN]at hn) (run _ _ e1)
  |i=>simp at h2
  |b=>simp at h2
  |s=>simp at h2
  |sh=>simp at h2
  |nl=>simp at h2
  |own=>simp at h2
  |vw=>simp at h2
  |inn=>simp at h2
  |fn=>simp at h2
theorem Lc(cf:Ok E σ w c)(dJ:fC E σ a w c)(hd:∀d,o.dst=ah d->d<a.tmps.size){x:dx}{i:aE}(ho:o.op= .extract x i)(h:(l_ E nm o).val σ=ah e):gU P E σ a w c o e.ws:=by
 simp only[l_,ho]at h;obtain⟨v,h1,h⟩:=Rd.bind_some h;obtain⟨ev,kv⟩:=mm dJ h1;split at h
 ·rename_i l;split at h
  ·rename_i agg xs hl;obtain⟨vs,e1,e2,e3⟩:=ev;obtain⟨u,hu,hv⟩:=e3 i agg xs hl;refine f_ cf dJ hd h (v:=u) hv (λn hn=>kv n (bL.2 ⟨(agg,xs),aR hl,hn⟩)) ?_;unfold execOp;rw[ho];refine iW ?_;rw[e1];simp only[Instr.extract,hu];rfl
  ·simp at h
 ·simp at h
theorem YP(cf:Ok E σ w c)(dJ:fC E σ a w c)(hd:∀d,o.dst=ah d->d<a.tmps.size){x:dx}{op:UnOp}{t:aE}(ho:o.op= .unOp op t x)(h:(l_ E nm o).val σ=ah e):gU P E σ a w c o e.ws:=by
 simp only[l_,ho]at h;obtain⟨v,h1,h⟩:=Rd.bind_some h;obtain⟨ev,kv⟩:=iX dJ h1;cases op with
 |not=>
  cases v with
  |b b=>refine f_ cf dJ hd h (v:= .bool !b) rfl (λn hn=>by simp[cJ,bN]at hn) ?_;unfold execOp;rw[ho];refine iW ?_;rw[show a.eval x= .bool b from ev];rfl
  |_=>simp at h
 |neg=>
  cases v with
  |i k n=>refine f_ cf dJ hd h (v:= .int k (k.wrap (0-n))) rfl (λn hn=>by simp[cJ,bN]at hn) ?_;unfold execOp;rw[ho];refine iW ?_;rw[show a.eval x= .int k n from ev];rfl
  |_=>simp at h
 |_=>cases v<;>simp at h
theorem rF{E:fU}{σ:St}{t:aE}{k:Ck}(h:(pP E t).val σ=ah k):∃ti,E.ty t=ah ti/\ti.agg=ak/\ti.ks=[k]:=by
 obtain⟨ti,h1,h2⟩:=Rd.bind_some h;split at h2
 ·rename_i k' h3 h4;simp at h2;subst h2;exact⟨ti,dX h1,h3,h4⟩
 ·simp at h2
theorem kH{E:fU}{σ:St}(hE:eC P E){t e:aE}(h:(pP E t).val σ=ah (.l e)):P.underlying t=ah (.slice e):=by obtain⟨ti,h1,h2,h3⟩:=rF h;exact o7 hE h1 h2 h3
theorem la{E:fU}{σ:St}(hE:eC P E){t:aE}(h:(pP E t).val σ=ah .s):P.underlying t=ah .string:=by obtain⟨ti,h1,h2,h3⟩:=rF h;obtain⟨d,hd,_,hn⟩:=hE.desc t ti h1;rcases hn h2 with ⟨k,h,_⟩|⟨h,_⟩|⟨h,rfl⟩|⟨e',h,_⟩|⟨h,_⟩<;>rw[h3]at h<;>simp_all
theorem TY(hE:eC P E)(cf:Ok E σ w c)(dJ:fC E σ a w c)(hd:∀d,o.dst=ah d->d<a.tmps.size){x y:dx}{t:aE}(ho:o.op= .index t x y)(h:(l_ E nm o).val σ=ah e)(hc:e.cond=ai):gU P E σ a w c o e.ws:=by
 simp only[l_,ho]at h;obtain⟨kk,h0,h⟩:=Rd.bind_some h;obtain⟨v,h1,h⟩:=Rd.bind_some h;obtain⟨⟨k,n⟩,h2,h⟩:=Rd.bind_some h;obtain⟨ev,kv⟩:=iX dJ h1;have ei:=pQ dJ h2;cases kk with
 |s=>cases v with
  |s s=>
   have hu:=la hE h0;refine EX cf dJ hd h hc (v:= .int .u8 ((s.data.getD n.toNat 0).toNat:ax)) (λ_=>rfl) (uk rfl) (λhb=> ?_);simp only[aL,bg]at hb;obtain⟨h0,h3⟩:=hb;unfold execOp;rw[ho];refine iW ?_;replace ev:a.eval x= .string s:=ev.1;have jm:n.toNat<s.size:=by omega
   have hg:s[n.toNat]? =ah s[n.toNat]:=by simp[jm]
   have hs:s[n.toNat]=s.data.getD n.toNat 0:=by rw[Array.getD,dif_pos (show n.toNat<s.data.size from jm)];rfl
   simp only[ev,ei,Instr.index,asIntOf,ch,cS,bF,run_underlying hu,h0,if_true,hg,hs]
  |_=>simp at h
 |_=>simp at h
end
end Go.FG

namespace Go.FG
section
variable {P:cZ} {E:fU} {σ:St} {a:Act} {w:bK} {c:eZ} {o:fA} {nm:aE} {e:sO}
theorem qu{α:Type}{b:aW}{x:α}{σ:St}{r:α}(h:(bif b then Rd.ret x else Rd.fail).val σ=ah r):b=ai/\r=x:=by obtain⟨h1,h2⟩:=cM h;exact⟨h1,(aJ h2).symm⟩
theorem e6{p:Pl}(h:p.nil=ak):lO p= .slice (ah (ad p.blk p.off)) p.n p.cap:=by unfold lO;rw[bG (by simp[h])]
theorem nB{p:Pl}(h:p.nil=ai):lO p= .slice aj 0 0:=by unfold lO;rw[bw h]
theorem lh{nm e:aE}{ex:aW}{xs:aQ}(cf:Ok E σ w c)(h:σ (c_ nm)= .o (.row e ex xs)):
  (c.P nm).n=xs.length/\((c.P nm).nil=ai->xs=[])/\∃ti,E.ty e=ah ti/\(c.P nm).sz=ti.ks.length/\((c.P nm).nil=ak->(c.P nm).n<=(c.P nm).cap/\(c.P nm).cap<=maxLen):=by have mS:=cf.obj nm _ h;obtain⟨ti,h1,h2,_⟩:=mS.sh;exact⟨mS.at_.n,λhn=>(mS.at_.nil hn).1,ti,h1,h2,λhn=>by obtain⟨_,_,h3,h4,_⟩:=mS.at_.mem hn;exact⟨h3,h4⟩⟩
theorem mU{nm e:aE}{xs:aQ}(cf:Ok E σ w c)(h:σ (c_ nm)= .o (.fV e xs)):
  (c.P nm).n=xs.length/\((c.P nm).nil=ai->xs=[])/\∃ti,E.ty e=ah ti/\(c.P nm).sz=ti.ks.length:=by
 obtain⟨h1,h2,h3⟩:=cf.obj nm _ h;refine⟨h2,λhn=> ?_,h3⟩
 rw[nB hn]at h1;cases h1;rfl
theorem GX(hE:eC P E)(cf:Ok E σ w c)(dJ:fC E σ a w c)(hd:∀d,o.dst=ah d->d<a.tmps.size){x y:dx}{t:aE}(ho:o.op= .indexAddr t x y)(h:(l_ E nm o).val σ=ah e)(hc:e.cond=ai):gU P E σ a w c o e.ws:=by
 simp only[l_,ho]at h;obtain⟨kk,h0,h⟩:=Rd.bind_some h;cases kk with
 |l el=>
  obtain⟨v,h1,h⟩:=Rd.bind_some h;obtain⟨⟨k,n⟩,h2,h⟩:=Rd.bind_some h;obtain⟨⟨b,q⟩,h3,h⟩:=Rd.bind_some h;obtain⟨ev,kv⟩:=iX dJ h1;have ei:=pQ dJ h2;have hu:=kH hE h0;have run:∀te b o' m cp,E.ty el=ah te->a.eval x= .slice (ah (ad b o')) m cp->0<=n->n<(m:ax)->(execOp a.eval o).run P w= .ok (.value (.pointer (ah (ad b (o'+n.toNat*te.ks.length))))) w:=by intro te b o' m cp KT hx h0 h1;unfold execOp;rw[ho];refine iW ?_;rw[hx,ei];exact Jo (P:=P) w hE hu KT b o' m cp k n h0 h1
  cases v with
  |sh e' xs=>
   obtain⟨DB,h3⟩:=qu h3;obtain⟨rfl,rfl⟩:=bT h3;have:=aU DB;subst this;obtain rfl:=aJ h;have hc:(decide (0<=n)&&decide (n<(xs.length:ax)))=true:=hc;simp only[aL,bg]at hc;obtain⟨c0,c1⟩:=hc;have ev:da E w c.K (a.eval x) (.l el xs):=ev;generalize hv:a.eval x=v at ev;have iw:0<xs.length:=by omega
   cases ev with
   |nl=>simp at iw
   |l _ _ bb oo cc ti U ht ON hmx hK hs hcell gz=>exact gF cf dJ hd (s:= .v ak [.sp el xs n.toNat 0]) (v:= .pointer (ah (ad bb (oo+n.toNat*ti.ks.length)))) ⟨bb,oo,cc,ti, .l el xs bb oo cc ti U ht ON hmx hK hs hcell gz,by omega,ht,rfl⟩ (λn hn=>by simp[cJ,bN]at hn) (run ti bb oo _ cc ht hv c0 c1)
  |own iC=>
   obtain⟨ob,hg,h3⟩:=Rd.bind_some h3;have hg:=dy hg;have main:∀(xs:aQ),(c.P iC).n=xs.length->((c.P iC).nil=ai->xs=[])->(∃ti,E.ty el=ah ti/\(c.P iC).sz=ti.ks.length)->(b,q)=(decide (0<=n)&&decide (n<(xs.length:ax)),AV.rp iC n.toNat 0)->gU P E σ a w c o e.ws:=by
    intro xs hn jv Xd hbq;obtain⟨rfl,rfl⟩:=bT hbq;obtain rfl:=aJ h;have hc:(decide (0<=n)&&decide (n<(xs.length:ax)))=true:=hc;simp only[aL,bg]at hc;obtain⟨c0,c1⟩:=hc;obtain⟨ti,ht,gi⟩:=Xd;have OT:(c.P iC).nil=false:=by
     cases hq:(c.P iC).nil with
     |false=>rfl
     |true=>rw[jv hq]at c1;simp at c1;omega
    have hx:a.eval x= .slice (ah (ad (c.P iC).blk (c.P iC).off)) (c.P iC).n (c.P iC).cap:=by rw[<-e6 OT];exact ev
    refine gF cf dJ hd (s:= .v ak [.rp iC n.toNat 0]) (v:= .pointer (ah (ad (c.P iC).blk ((c.P iC).off+n.toNat*ti.ks.length)))) ⟨by omega,by rw[gi];rfl⟩ (λm hm=>by simp[cJ,bN]at hm;subst hm;rw[hg];simp) (run ti _ _ _ _ ht hx c0 (by rw[hn];exact c1))
   cases ob with
   |row e' ex xs=>obtain⟨DB,h4⟩:=qu h3;have:=aU DB;subst this;obtain⟨i1,i2,ti,i3,i4,_⟩:=lh cf hg;exact main xs i1 i2 ⟨ti,i3,i4⟩ h4
   |fV e' xs=>obtain⟨DB,h4⟩:=qu h3;have:=aU DB;subst this;obtain⟨i1,i2,i3⟩:=mU cf hg;exact main xs i1 i2 i3 h4
   |_=>simp at h3
  |vw iC lo hi=>
   obtain⟨ob,hg,h3⟩:=Rd.bind_some h3;have hg:=dy hg;have main:∀(xs:aQ),(c.P iC).n=xs.length->(∃ti,E.ty el=ah ti/\(c.P iC).sz=ti.ks.length)->(b,q)=(decide (0<=n)&&decide (n<((hi-lo:aE):ax)),AV.rp iC (lo+n.toNat) 0)->gU P E σ a w c o e.ws:=by
    intro xs hn Xd hbq;obtain⟨rfl,rfl⟩:=bT hbq;obtain rfl:=aJ h;have hc:(decide (0<=n)&&decide (n<((hi-lo:aE):ax)))=true:=hc;simp only[aL,bg]at hc;obtain⟨c0,c1⟩:=hc;obtain⟨ti,ht,gi⟩:=Xd;obtain⟨v1,v2,v3,v4⟩:=ev;have OT:(c.P iC).nil=false:=by
     cases hq:(c.P iC).nil with
     |false=>rfl
     |true=>
      obtain⟨f1,_⟩:(c.P iC).n=0/\True:=by
       have mS:=cf.obj iC _ hg;rw[hn];cases ob with
       |row e' ex ys=>obtain⟨j1,j2,_⟩:=lh cf hg;rw[<-hn,j1,j2 hq];simp
       |fV e' ys=>obtain⟨j1,j2,_⟩:=mU cf hg;rw[<-hn,j1,j2 hq];simp
       |_=>simp at h3
      omega
    rcases v4 OT with ⟨u1,hx⟩|⟨u1,oo,u2,hx⟩
    ·refine gF cf dJ hd (s:= .v ak [.rp iC (lo+n.toNat) 0]) (v:= .pointer (ah (ad (c.P iC).blk ((c.P iC).off+lo*(c.P iC).sz+n.toNat*ti.ks.length)))) ⟨by omega, ?_⟩ (λm hm=>by simp[cJ,bN]at hm;subst hm;rw[hg];simp) (run ti _ _ _ _ ht hx c0 c1);rw[<-gi,show(c.P iC).off+(lo+n.toNat)*(c.P iC).sz+0=(c.P iC).off+lo*(c.P iC).sz+n.toNat*(c.P iC).sz by rw[dp];omega]
    ·exfalso;have ON:(c.P iC).n<=(c.P iC).cap:=by
      cases ob with
      |row e' ex ys=>obtain⟨_,_,_,_,_,j⟩:=lh cf hg;exact(j OT).1
      |fV e' ys=>
       obtain⟨j1,j2,_⟩:=cf.obj iC _ hg;rw[e6 OT]at j1;by_cases hz:0<ys.length
       ·obtain⟨t3,U,L⟩:=j1.IY hz;rw[j2];exact L.cap
       ·omega
      |_=>simp at h3
     omega
   cases ob with
   |row e' ex xs=>obtain⟨DB,h4⟩:=qu h3;have:=aU DB;subst this;obtain⟨i1,i2,ti,i3,i4,_⟩:=lh cf hg;exact main xs i1 ⟨ti,i3,i4⟩ h4
   |fV e' xs=>obtain⟨DB,h4⟩:=qu h3;have:=aU DB;subst this;obtain⟨i1,i2,i3⟩:=mU cf hg;exact main xs i1 i3 h4
   |_=>simp at h3
  |inn iC i j=>
   obtain⟨ob,hg,h3⟩:=Rd.bind_some h3;have hg:=dy hg;cases ob with
   |row e' ex xs=>
    cases ex with
    |false=>simp at h3
    |true=>
     obtain⟨te,ht,h3⟩:=Rd.bind_some h3;have ht:=dX ht;split at h3
     ·rename_i e2 zW;obtain⟨DB,h3⟩:=qu h3;obtain⟨rfl,rfl⟩:=bT h3;have:=aU DB;subst this;obtain rfl:=aJ h;obtain⟨⟨j7,hx⟩,hFv⟩:=ev;obtain⟨⟨tj,htj,gi,mG⟩,gh,_⟩:=cf.obj iC _ hg;obtain rfl:te=tj:=aJ (ht.symm.trans htj);obtain⟨zs,y',hy,hyj,uu,_,tk,GL,sL,KS,DF,oF⟩:=uw (c:=c) gh mG j7 zW;have hc:(decide (0<=n)&&decide (n<((iR (ar xs i j)).length:ax)))=true:=hc;rw[fD hy hyj]at hc;simp only[aL,bg]at hc;obtain⟨c0,c1⟩:=hc;have c1:n<(zs.length:ax):=c1;have OT:(c.G iC i j).nil=false:=by
       cases hq:(c.G iC i j).nil with
       |false=>rfl
       |true=>have:=(oF.nil hq).1;subst this;simp at c1;omega
      rw[e6 OT]at hx;refine gF cf dJ hd (s:= .v ak [.ip iC i j n.toNat 0]) (v:= .pointer (ah (ad (c.G iC i j).blk ((c.G iC i j).off+n.toNat*tk.ks.length)))) ⟨⟨j7,by rw[oF.n];omega,by rw[KS];rfl⟩,hFv⟩ (λm hm=>by simp[cJ,bN]at hm;subst hm;rw[hg];simp) (run tk _ _ _ _ GL hx c0 (by rw[oF.n];exact c1))
     ·simp at h3
   |_=>simp at h3
  |_=>simp[Sy]at h3
 |_=>simp at h
end
end Go.FG

namespace Go.FG
section
variable {P:cZ} {E:fU} {σ:St} {a:Act} {w:bK} {c:eZ} {o:fA} {nm:aE} {e:sO}
theorem Bh(dJ:fC E σ a w c){x:az dx}{d n:ax}(h:(nZ x d).val σ=ah n):(x=aj/\n=d)\/∃y k,x=ah y/\a.eval y= .int k n:=by
 cases x with
 |none=>exact .inl ⟨rfl,(aJ h).symm⟩
 |some y=>obtain⟨⟨k,m⟩,h1,h2⟩:=Rd.bind_some h;obtain rfl:=aJ h2;exact .inr ⟨y,k,rfl,pQ dJ h1⟩
theorem ET{x:bj}{k:nc}{n:ax}{y:aE}{code:BoundsCode}(hx:x= .int k n)(h0:0<=n)(h1:n<=y):(qI x y code).run P w= .ok n.toNat w:=by subst hx;simp only[qI,asIntOf,ch,cS,bF,h0,h1,and_self,if_true]
theorem CI(dJ:fC E σ a w c){isS:aW}{len cap:aE}{lo hi:az dx}{l h:ax}(hl:(nZ lo 0).val σ=ah l)(hh:(nZ hi len).val σ=ah h)(h0:0<=l)(h1:l<=h)(h2:h<=cap):
  (mX isS len cap (lo.map a.eval) (hi.map a.eval) aj).run P w= .ok (l.toNat,h.toNat,cap) w:=by
 have low:∀v,lo=ah v->∀code,(qI (a.eval v) h.toNat code).run P w= .ok l.toNat w:=by
  intro v hv code;rcases Bh dJ hl with ⟨hx,_⟩|⟨y,k,hx,hy⟩
  ·rw[hx]at hv;cases hv
  ·rw[hx]at hv;cases hv;exact ET hy h0 (by omega)
 have high:∀v,hi=ah v->∀code,(qI (a.eval v) cap code).run P w= .ok h.toNat w:=by
  intro v hv code;rcases Bh dJ hh with ⟨hx,_⟩|⟨y,k,hx,hy⟩
  ·rw[hx]at hv;cases hv
  ·rw[hx]at hv;cases hv;exact ET hy (by omega) h2
 have l0:lo=aj->l=0:=λhx=>by rcases Bh dJ hl with ⟨_,hn⟩|⟨y,k,hy,_⟩;exact hn;rw[hx]at hy;cases hy
 have VN:hi=aj->h=len:=λhx=>by rcases Bh dJ hh with ⟨_,hn⟩|⟨y,k,hy,_⟩;exact hn;rw[hx]at hy;cases hy
 cases lo with
 |none=>
  obtain rfl:=l0 rfl;cases hi with
  |none=>obtain rfl:=VN rfl;simp[mX]
  |some v=>simp[mX,high v rfl]
 |some u=>
  cases hi with
  |none=>obtain rfl:=VN rfl;have:=low u rfl;simp only[eQ]at this;simp[mX,this]
  |some v=>simp[mX,high v rfl,low u rfl]
theorem Lm{t:aE}(hu:P.underlying t=ah .string)(dJ:fC E σ a w c){lo hi:az dx}{l h:ax}{s:aq}(hl:(nZ lo 0).val σ=ah l)(hh:(nZ hi s.size).val σ=ah h)(h0:0<=l)(h1:l<=h)(h2:h<=(s.size:ax)):
  (qj t (.string s) (lo.map a.eval) (hi.map a.eval) aj).run P w= .ok (.string (s.extract l.toNat h.toNat)) w:=by simp only[qj,Instr.slice,ch,run_underlying hu,bF,Option.isSome_none,du,if_false,CI (P:=P) dJ hl hh h0 h1 h2,cS]
theorem kK{t el:aE}{te:TI}(hE:eC P E)(hu:P.underlying t=ah (.slice el))(he:E.ty el=ah te)(dJ:fC E σ a w c){lo hi:az dx}{l h:ax}{A:az Addr}{n cp:aE}(hl:(nZ lo 0).val σ=ah l)(hh:(nZ hi n).val σ=ah h)(h0:0<=l)(h1:l<=h)(h2:h<=(cp:ax)):
  (qj t (.slice A n cp) (lo.map a.eval) (hi.map a.eval) aj).run P w= .ok (.slice (if cp=l.toNat then A else A.map (·.add (l.toNat*te.ks.length))) (h.toNat-l.toNat) (cp-l.toNat)) w:=by obtain⟨inf,lZ,gi,_⟩:=hE.info el te he;simp only[qj,Instr.slice,ch,run_underlying hu,bF,CI (P:=P) dJ hl hh h0 h1 h2,sizeOf,typeInfo,program,ng,lZ,gi,cS]
theorem tQ{xs:aQ}{lo hi i:aE}:(eW xs lo hi)[i]? =if i<hi-lo then xs[lo+i]? else none:=by unfold eW;rw[d_];split<;>simp[dR]
theorem mv{xs:aQ}{lo hi:aE}(h:hi<=xs.length):(eW xs lo hi).length=hi-lo:=by unfold eW;simp;omega
theorem Ci{xs:aQ}{lo hi:aE}{y:aC CV}(h:y∈eW xs lo hi):y∈xs:=kU (kV h)
theorem adt{K:aE->Prop}{v:bj}{el:aE}{xs:aQ}{te:TI}(he:E.ty el=ah te)(h:da E w K v (.l el xs)){lo hi:aE}(h1:lo<=hi)(h2:hi<=xs.length):
  ∃A n cp,v= .slice A n cp/\n=xs.length/\n<=cp\/∃A cp,v= .slice A 0 cp/\xs=[]:=by
 cases h with
 |nl=>exact⟨aj,0,0, .inr ⟨_,_,rfl,rfl⟩⟩
 |l _ _ b oo cp ti U ht hc=>exact⟨_,_,_, .inl ⟨rfl,rfl,hc⟩⟩
theorem EB{K:aE->Prop}{A:az Addr}{n cp el:aE}{xs:aQ}{te:TI}(he:E.ty el=ah te)(h:da E w K (.slice A n cp) (.l el xs)){lo hi:aE}(h1:lo<=hi)(h2:hi<=xs.length):
  n=xs.length/\da E w K (.slice (if cp=lo then A else A.map (·.add (lo*te.ks.length))) (hi-lo) (cp-lo)) (.l el (eW xs lo hi)):=by
 generalize hv:Value.slice A n cp=v at h;generalize hx:CV.l el xs=x at h;cases h with
 |i=>cases hx
 |b=>cases hx
 |s=>cases hx
 |nl=>
  cases hx;cases hv;have:hi=0:=by simpa using h2
  subst this;have:lo=0:=by omega
  subst this;exact⟨rfl, .nl _ _ _⟩
 |l _ _ b oo cp ti U ht hc hm hK hs hcell gz=>
  cases hx;cases hv;refine⟨rfl, ?_⟩
  obtain rfl:te=ti:=aJ (he.symm.trans ht);by_cases hz:hi-lo=0
  ·rw[hz];have:eW xs lo hi=[]:=by unfold eW;rw[hz];simp
   rw[this];exact .nl _ _ _
  ·rw[bG (by omega)];simp only[jc,Addr.nV];have hl:=mv (xs:=xs) (lo:=lo) h2;rw[<-hl];refine .l el (eW xs lo hi) b (oo+lo*te.ks.length) (cp-lo) te (λi j=>U (lo+i) j) ht (by rw[hl];omega) (by omega) hK (λy hy=>hs y (Ci hy)) (λi j y x lZ hj=> ?_) (λi j y x lZ hj=> ?_)
   ·rw[tQ]at lZ;split at lZ
    ·have:=hcell (lo+i) j y x lZ hj;rw[<-this];congr 2;rw[dp];omega
    ·cases lZ
   ·rw[tQ]at lZ;split at lZ
    ·exact gz (lo+i) j y x lZ hj
    ·cases lZ
theorem TZ(hE:eC P E)(cf:Ok E σ w c)(dJ:fC E σ a w c)(hd:∀d,o.dst=ah d->d<a.tmps.size){x:dx}{t:aE}{lo hi mx:az dx}(ho:o.op= .slice t x lo hi mx)(h:(l_ E nm o).val σ=ah e)(hc:e.cond=ai):gU P E σ a w c o e.ws:=by
 simp only[l_,ho]at h;cases mx with
 |some m=>simp at h
 |none=>
 obtain⟨kk,hk,h⟩:=Rd.bind_some h;obtain⟨v,h1,h⟩:=Rd.bind_some h;obtain⟨⟨b,q⟩,h3,h⟩:=Rd.bind_some h;obtain⟨ev,kv⟩:=iX dJ h1;have exec:∀{u r:bj},a.eval x=u->(qj t u (lo.map a.eval) (hi.map a.eval) aj).run P w= .ok r w->(execOp a.eval o).run P w= .ok (.value r) w:=by intro u r hu hr;unfold execOp;rw[ho];exact iW (by rw[hu];exact hr)
 cases kk with
 |s=>cases v with
  |s s=>have hu:=la hE hk;obtain⟨l,hl,h3⟩:=Rd.bind_some h3;obtain⟨hh,AG,h3⟩:=Rd.bind_some h3;obtain⟨rfl,rfl⟩:=bT (aJ h3);obtain rfl:=aJ h;have hc:iy l hh s.size=true:=hc;simp only[iy,aL,bg]at hc;obtain⟨⟨c0,c1⟩,c2⟩:=hc;exact gF cf dJ hd (s:= .v ak [.s _]) (v:= .string _) ⟨rfl,by have h5:=ev.2;unfold DK at h5⊢;rw[yr];omega⟩ (λn hn=>by simp[cJ,bN]at hn) (exec ev.1 (Lm (P:=P) hu dJ hl AG c0 c1 c2))
  |_=>simp[Lt]at h3
 |l el=>
  have hu:=kH hE hk;obtain⟨te,KT,h3⟩:=Rd.bind_some h3;have KT:=dX KT;cases v with
  |sh e' xs=>
   obtain⟨DB,h4⟩:=cM h3;have:=aU DB;subst this;obtain⟨l,hl,h4⟩:=Rd.bind_some h4;obtain⟨hh,AG,h4⟩:=Rd.bind_some h4;obtain⟨rfl,rfl⟩:=bT (aJ h4);obtain rfl:=aJ h;have hc:iy l hh xs.length=true:=hc;simp only[iy,aL,bg]at hc;obtain⟨⟨c0,c1⟩,c2⟩:=hc;have ev:da E w c.K (a.eval x) (.l el xs):=ev;generalize hv:a.eval x=v at ev;cases ev with
   |nl _ A cp=>
    have h0:hh=0:=by simp at c2;omega
    have l0:l=0:=by omega
    subst h0;subst l0;have hr:=kK (P:=P) (te:=te) hE hu KT dJ (A:=A) (n:=0) (cp:=cp) hl AG (by omega) (by omega) (by omega);exact gF cf dJ hd (s:= .v ak [.sh el (eW [] (0:ax).toNat (0:ax).toNat)]) (.nl _ _ _) (λn hn=>by simp[cJ,bN]at hn) (exec hv hr)
   |l _ _ bb oo cp ti U ht ON hmx hK hs hcell gz=>have hr:=kK (P:=P) (te:=ti) hE hu ht dJ (A:=ah (ad bb oo)) (cp:=cp) hl AG c0 c1 (by omega);have art:=(EB (lo:=l.toNat) (hi:=hh.toNat) ht (.l el xs bb oo cp ti U ht ON hmx hK hs hcell gz) (by omega) (by omega)).2;exact gF cf dJ hd (s:= .v ak [.sh el (eW xs l.toNat hh.toNat)]) art (λn hn=>by simp[cJ,bN]at hn) (exec hv hr)
  |own iC=>
   obtain⟨ob,hg,h3⟩:=Rd.bind_some h3;have hg:=dy hg
   have main:∀(xs:aQ),(c.P iC).n=xs.length->((c.P iC).nil=ai->xs=[])->(∃ti,E.ty el=ah ti/\(c.P iC).sz=ti.ks.length)->((c.P iC).nil=ak->(c.P iC).n<=(c.P iC).cap)->
     ((nZ lo 0).bind λl=>(nZ hi xs.length).bind λh=>Rd.ret (iy l h xs.length,AV.vw iC l.toNat h.toNat)).val σ=ah (b,q)->gU P E σ a w c o e.ws:=by
    intro xs hn jv Xd hcp h4
    obtain⟨l,hl,h4⟩:=Rd.bind_some h4
    obtain⟨hh,AG,h4⟩:=Rd.bind_some h4
    obtain⟨rfl,rfl⟩:=bT (aJ h4)
    obtain rfl:=aJ h
    have hc:iy l hh xs.length=true:=hc
    simp only[iy,aL,bg]at hc
    obtain⟨⟨c0,c1⟩,c2⟩:=hc
    obtain⟨ti,ht,gi⟩:=Xd
    have ev:a.eval x=lO (c.P iC):=ev
    cases hq:(c.P iC).nil with
    |true=>
     rw[nB hq]at ev;have hx:=jv hq;subst hx;have h0:hh=0:=by simp at c2;omega
     have l0:l=0:=by omega
     subst h0;subst l0;have hr:=kK (P:=P) (te:=ti) hE hu ht dJ (A:=aj) (n:=0) (cp:=0) hl AG (by omega) (by omega) (by simp);refine gF cf dJ hd (s:= .v ak [.vw iC 0 0]) (v:= .slice aj 0 0) ⟨cw _,bB _,λ_=>rfl,λhf=>by rw[hq]at hf;cases hf⟩ (λm hm=>by simp[cJ,bN]at hm;subst hm;rw[hg];simp) (exec ev (by simpa using hr))
    |false=>
     rw[e6 hq]at ev;have hcp:=hcp hq;have hr:=kK (P:=P) (te:=ti) hE hu ht dJ (A:=ah (ad (c.P iC).blk (c.P iC).off)) (n:=(c.P iC).n) (cp:=(c.P iC).cap) hl (by rw[hn];exact AG) c0 c1 (by omega);refine gF cf dJ hd (s:= .v ak [.vw iC l.toNat hh.toNat]) ⟨by omega,by omega,λhf=>(by rw[hq]at hf;cases hf),λ_=> ?_⟩ (λm hm=>by simp[cJ,bN]at hm;subst hm;rw[hg];simp) (exec ev hr);by_cases hle:(c.P iC).cap=l.toNat
     ·refine .inr ⟨hle.symm,(c.P iC).off,by omega, ?_⟩;rw[bw hle,show hh.toNat-l.toNat=0 by omega,show(c.P iC).cap-l.toNat=0 by omega]
     ·refine .inl ⟨by omega, ?_⟩;rw[bG hle];simp only[jc,Addr.nV,gi]
   cases ob with
   |row e' ex xs=>obtain⟨DB,h4⟩:=cM h3;have:=aU DB;subst this;obtain⟨i1,i2,ti,i3,i4,i5⟩:=lh cf hg;exact main xs i1 i2 ⟨ti,i3,i4⟩ (λh=>(i5 h).1) h4
   |fV e' xs=>
    obtain⟨DB,h4⟩:=cM h3;have:=aU DB;subst this;obtain⟨i1,i2,i3⟩:=mU cf hg;refine main xs i1 i2 i3 (λOT=> ?_) h4;obtain⟨j1,j2,_⟩:=cf.obj iC _ hg;rw[e6 OT]at j1;by_cases hz:0<xs.length
    ·obtain⟨t3,U,L⟩:=j1.IY hz;rw[j2];exact L.cap
    ·omega
   |_=>simp at h3
  |vw iC DJ GF=>
   obtain⟨ob,hg,h3⟩:=Rd.bind_some h3;have hg:=dy hg
   have main:(∃ti,E.ty el=ah ti/\(c.P iC).sz=ti.ks.length)->((c.P iC).nil=ai->(c.P iC).n=0)->((c.P iC).nil=ak->(c.P iC).n<=(c.P iC).cap)->
     ((nZ lo 0).bind λl=>(nZ hi ((GF-DJ:aE):ax)).bind λh=>Rd.ret (iy l h ((GF-DJ:aE):ax),AV.vw iC (DJ+l.toNat) (DJ+h.toNat))).val σ=ah (b,q)->gU P E σ a w c o e.ws:=by
    intro Xd jv hcp h4
    obtain⟨l,hl,h4⟩:=Rd.bind_some h4
    obtain⟨hh,AG,h4⟩:=Rd.bind_some h4
    obtain⟨rfl,rfl⟩:=bT (aJ h4)
    obtain rfl:=aJ h
    have hc:iy l hh ((GF-DJ:aE):ax)=true:=hc
    simp only[iy,aL,bg]at hc
    obtain⟨⟨c0,c1⟩,c2⟩:=hc
    obtain⟨ti,ht,gi⟩:=Xd
    obtain rfl:te=ti:=aJ (KT.symm.trans ht)
    obtain⟨v1,v2,v3,v4⟩:=ev
    cases hq:(c.P iC).nil with
    |true=>
     have hz:=jv hq;have ex:=v3 hq;have hi0:GF=0:=by omega
     have lo0:DJ=0:=by omega
     subst hi0;subst lo0;have h0:hh=0:=by simp at c2;omega
     have l0:l=0:=by omega
     subst h0;subst l0;have hr:=kK (P:=P) (te:=te) hE hu ht dJ (A:=aj) (n:=0) (cp:=0) hl (by simpa using AG) (by omega) (by omega) (by simp);refine gF cf dJ hd (s:= .v ak [.vw iC (0+(0:ax).toNat) (0+(0:ax).toNat)]) (v:= .slice aj 0 0) ⟨cw _,bB _,λ_=>rfl,λhf=>by rw[hq]at hf;cases hf⟩ (λm hm=>by simp[cJ,bN]at hm;subst hm;rw[hg];simp) (exec ex (by simpa using hr))
    |false=>
     have hcp:=hcp hq;rcases v4 hq with ⟨u1,ex⟩|⟨u1,oo,u2,ex⟩
     ·have hr:=kK (P:=P) (te:=te) hE hu ht dJ (A:=ah (ad (c.P iC).blk ((c.P iC).off+DJ*(c.P iC).sz))) (n:=GF-DJ) (cp:=(c.P iC).cap-DJ) hl AG c0 c1 (by omega);refine gF cf dJ hd (s:= .v ak [.vw iC (DJ+l.toNat) (DJ+hh.toNat)]) ⟨by omega,by omega,λhf=>(by rw[hq]at hf;cases hf),λ_=> ?_⟩ (λm hm=>by simp[cJ,bN]at hm;subst hm;rw[hg];simp) (exec ex hr);by_cases hle:(c.P iC).cap-DJ=l.toNat
      ·refine .inr ⟨by omega,(c.P iC).off+DJ*(c.P iC).sz, ?_, ?_⟩
       ·have:=bZ (c.P iC).sz (Nat.le_of_lt u1);omega
       ·rw[bw hle,show hh.toNat-l.toNat=0 by omega,show(c.P iC).cap-DJ-l.toNat=0 by omega]
      ·refine .inl ⟨by omega, ?_⟩;rw[bG hle];simp only[jc,Addr.nV,gi];rw[show DJ+hh.toNat-(DJ+l.toNat)=hh.toNat-l.toNat by omega,show(c.P iC).cap-(DJ+l.toNat)=(c.P iC).cap-DJ-l.toNat by omega,dp,lW]
     ·have hr:=kK (P:=P) (te:=te) hE hu ht dJ (A:=ah (ad (c.P iC).blk oo)) (n:=0) (cp:=0) hl (by rw[show GF-DJ=0 by omega]at AG;exact AG) c0 c1 (by omega);have h0:hh=0:=by omega
      have l0:l=0:=by omega
      subst h0;subst l0;refine gF cf dJ hd (s:= .v ak [.vw iC (DJ+(0:ax).toNat) (DJ+(0:ax).toNat)]) (v:= .slice (ah (ad (c.P iC).blk oo)) 0 0) ⟨cw _,by simp;omega,λhf=>(by rw[hq]at hf;cases hf),λ_=> .inr ⟨by simpa using u1,oo,u2,rfl⟩⟩ (λm hm=>by simp[cJ,bN]at hm;subst hm;rw[hg];simp) (exec ex (by simpa using hr))
   cases ob with
   |row e' ex xs=>obtain⟨DB,h4⟩:=cM h3;have:=aU DB;subst this;obtain⟨i1,i2,ti,i3,i4,i5⟩:=lh cf hg;exact main ⟨ti,i3,i4⟩ (λhn=>by rw[i1,i2 hn];rfl) (λh=>(i5 h).1) h4
   |fV e' xs=>
    obtain⟨DB,h4⟩:=cM h3;have:=aU DB;subst this;obtain⟨i1,i2,i3⟩:=mU cf hg;refine main i3 (λhn=>by rw[i1,i2 hn];rfl) (λOT=> ?_) h4;obtain⟨j1,j2,_⟩:=cf.obj iC _ hg;rw[e6 OT]at j1;by_cases hz:0<xs.length
    ·obtain⟨t3,U,L⟩:=j1.IY hz;rw[j2];exact L.cap
    ·omega
   |_=>simp at h3
  |nl=>
   obtain⟨l,hl,h4⟩:=Rd.bind_some h3;obtain⟨hh,AG,h4⟩:=Rd.bind_some h4;obtain⟨rfl,rfl⟩:=bT (aJ h4);obtain rfl:=aJ h;have hc:iy l hh 0=true:=hc;simp only[iy,aL,bg]at hc;obtain⟨⟨c0,c1⟩,c2⟩:=hc;have h0:hh=0:=by omega
   have l0:l=0:=by omega
   subst h0;subst l0;have hr:=kK (P:=P) (te:=te) hE hu KT dJ (A:=aj) (n:=0) (cp:=0) hl AG (by omega) (by omega) (by simp);exact gF cf dJ hd (s:= .v ak [.nl]) (v:= .slice aj 0 0) rfl (λn hn=>by simp[cJ,bN]at hn) (exec ev (by simpa using hr))
  |_=>simp[Uv]at h3
 |_=>simp[Lt]at h3
end
end Go.FG

namespace Go.FG
section
variable {P:cZ} {E:fU} {σ:St} {a:Act} {w:bK} {c:eZ} {o:fA} {nm:aE} {e:sO}
theorem Py(cf:Ok E σ w c){x:AV}{v:bj}(hx:eG E w c x v){el:aE}{xs:aQ}(h:(mz E x).val σ=ah (el,xs)):∃A cp,v= .slice A xs.length cp:=by
 cases x with
 |sh e' ys=>
  obtain⟨rfl,rfl⟩:=bT (aJ h);have hx:da E w c.K v (.l e' ys):=hx;cases hx with
  |nl=>exact⟨_,_,rfl⟩
  |l=>exact⟨_,_,rfl⟩
 |own n=>
  obtain⟨ob,hg,h⟩:=Rd.bind_some h;have hg:=dy hg;have hx:v=lO (c.P n):=hx;have main:∀ys:aQ,(c.P n).n=ys.length->((c.P n).nil=ai->ys=[])->∃A cp,v= .slice A ys.length cp:=by
   intro ys h1 h2;cases hq:(c.P n).nil with
   |true=>rw[hx,nB hq,h2 hq];exact⟨_,_,rfl⟩
   |false=>rw[hx,e6 hq,h1];exact⟨_,_,rfl⟩
  cases ob with
  |row e' ex ys=>obtain⟨rfl,rfl⟩:=bT (aJ h);obtain⟨i1,i2,_⟩:=lh cf hg;exact main _ i1 i2
  |fV e' ys=>obtain⟨rfl,rfl⟩:=bT (aJ h);obtain⟨i1,i2,_⟩:=mU cf hg;exact main _ i1 i2
  |_=>simp at h
 |vw n lo hi=>
  obtain⟨ob,hg,h⟩:=Rd.bind_some h;have hg:=dy hg;obtain⟨v1,v2,v3,v4⟩:=hx;have main:∀ys:aQ,(c.P n).n=ys.length->((c.P n).nil=ai->ys=[])->((c.P n).nil=ak->(c.P n).n<=(c.P n).cap)->∃A cp,v= .slice A (eW ys lo hi).length cp:=by
   intro ys h1 h2 h3;rw[mv (by omega)];cases hq:(c.P n).nil with
   |true=>have:=h2 hq;subst this;rw[v3 hq,show hi-lo=0 by simp at h1;omega];exact⟨_,_,rfl⟩
   |false=>
    rcases v4 hq with ⟨_,h⟩|⟨u1,oo,_,h⟩
    ·rw[h];exact⟨_,_,rfl⟩
    ·have:=h3 hq;rw[h,show hi-lo=0 by omega];exact⟨_,_,rfl⟩
  cases ob with
  |row e' ex ys=>obtain⟨rfl,rfl⟩:=bT (aJ h);obtain⟨i1,i2,ti,_,_,i5⟩:=lh cf hg;exact main _ i1 i2 (λh=>(i5 h).1)
  |fV e' ys=>
   obtain⟨rfl,rfl⟩:=bT (aJ h);obtain⟨i1,i2,_⟩:=mU cf hg;refine main _ i1 i2 (λOT=> ?_);obtain⟨j1,j2,_⟩:=cf.obj n _ hg;rw[e6 OT]at j1;by_cases hz:0<ys.length
   ·obtain⟨t3,U,L⟩:=j1.IY hz;rw[j2];exact L.cap
   ·omega
  |_=>simp at h
 |inn n i j=>
  obtain⟨ob,hg,h⟩:=Rd.bind_some h;have hg:=dy hg;cases ob with
  |row e' ex ys=>
   cases ex with
   |false=>simp at h
   |true=>
   obtain⟨te,ht,h⟩:=Rd.bind_some h;have ht:=dX ht;split at h
   ·rename_i e2 zW;obtain⟨rfl,rfl⟩:=bT (aJ h);obtain⟨⟨j7,hx⟩,_⟩:=hx;obtain⟨⟨tj,htj,gi,mG⟩,gh,_⟩:=cf.obj n _ hg;obtain rfl:te=tj:=aJ (ht.symm.trans htj);obtain⟨zs,y',hy,hyj,uu,_,tk,GL,sL,KS,DF,oF⟩:=uw (c:=c) gh mG j7 zW;rw[fD hy hyj];cases hq:(c.G n i j).nil with
    |true=>rw[hx,nB hq,show iR (.l e2 zs)=zs from rfl,(oF.nil hq).1];exact⟨_,_,rfl⟩
    |false=>rw[hx,e6 hq,oF.n];exact⟨_,_,rfl⟩
   ·simp at h
  |_=>simp at h
 |_=>simp[mz]at h
theorem mP{cl:Call}{b:Builtin}(ho:o.op= .call cl)(hb:cl.callee= .builtin b):
  ∃cs,(execOp a.eval o).run P w=(builtin b cl.argTypes o.type cs (cl.args.map a.eval)).run P w:=by unfold execOp;rw[ho];simp only[resolve,hb,ch,cS,bF,invoke];exact⟨_,rfl⟩
theorem ny{α:Type}{x:dq α}{y:α}(h:x.toList=[y]):x= #[y]:=by apply si;simpa using h
theorem CT{α:Type}{x:dq α}{y z:α}(h:x.toList=[y,z]):x= #[y,z]:=by apply si;simpa using h
theorem afF(hE:eC P E)(cf:Ok E σ w c)(dJ:fC E σ a w c)(hd:∀d,o.dst=ah d->d<a.tmps.size){cl:Call}(ho:o.op= .call cl)(hb:cl.callee= .builtin .len)(h:(l_ E nm o).val σ=ah e):gU P E σ a w c o e.ws:=by
 simp only[l_,ho,hb]at h;split at h
 ·rename_i x t hx ht;obtain⟨k,hk,h⟩:=Rd.bind_some h;obtain⟨v,h1,h⟩:=Rd.bind_some h;obtain⟨n,h2,h⟩:=Rd.bind_some h;obtain⟨ev,kv⟩:=iX dJ h1;have hx:=ny hx;have ht:=ny ht;have exec:∀r,(we #[t] o.type #[a.eval x]).run P w= .ok r w->(execOp a.eval o).run P w= .ok (.value r) w:=by intro r hr;obtain⟨cs,Hz⟩:=mP (P:=P) (a:=a) (w:=w) ho hb;rw[Hz,hx,ht];simp only[builtin,Dg,fB,BD];exact iW hr
  have fin:∀m:aE,n=m->(we #[t] o.type #[a.eval x]).run P w= .ok (goInt m) w->gU P E σ a w c o e.ws:=by intro m hm hr;subst hm;exact f_ cf dJ hd h (v:=goInt m) rfl (λn hn=>by simp[cJ,bN]at hn) (exec _ hr)
  cases k with
  |s=>cases v with
   |s s=>obtain rfl:=aJ h2;have ev:a.eval x= .string s:=ev.1;exact fin s.size rfl (by rw[ev];simp[we,run_underlying (la hE hk)])
   |_=>simp[ae5]at h2
  |l el=>
   have hu:=kH hE hk;have sl:∀A (m:aE) cp,a.eval x= .slice A m cp->n=m->gU P E σ a w c o e.ws:=by intro A m cp hv hn;exact fin m hn (by rw[hv];simp[we,run_underlying hu])
   have gen:∀(el':aE) (xs:aQ),(mz E v).val σ=ah (el',xs)->n=xs.length->gU P E σ a w c o e.ws:=by intro el' xs hr hn;obtain⟨A,cp,hv⟩:=Py cf ev hr;exact sl _ _ _ hv hn
   cases v with
   |nl=>obtain rfl:=aJ h2;exact sl aj 0 0 ev rfl
   |vw m lo hi=>
    obtain⟨ob,hg,h2⟩:=Rd.bind_some h2;have hg:=dy hg;have r1:∃(e1:aE) (ys:aQ),(mz E (.vw m lo hi)).val σ=ah (e1,eW ys lo hi)/\(c.P m).n=ys.length/\n=((hi-lo:aE):ax):=by
     cases ob with
     |row e1 ex ys=>exact⟨e1,ys,by simp[mz,jH,hg],(lh cf hg).1,(aJ h2).symm⟩
     |fV e1 ys=>exact⟨e1,ys,by simp[mz,jH,hg],(mU cf hg).1,(aJ h2).symm⟩
     |_=>simp at h2
    obtain⟨e1,ys,h5,h6,h7⟩:=r1;refine gen e1 _ h5 ?_;rw[mv (by have:=ev.2.1;omega)];exact h7
   |_=>obtain⟨⟨el',xs⟩,hr,h3⟩:=Rd.bind_some h2;obtain rfl:=aJ h3;exact gen el' xs hr rfl
  |_=>simp[ae5]at h2
 ·simp at h
end
end Go.FG

namespace Go.FG
section
variable {P:cZ} {E:fU} {σ:St} {a:Act} {w:bK} {c:eZ} {o:fA} {nm:aE} {e:sO}
theorem zv{α:Type}{x:az α}{σ:St}{r:α}(h:(T1 x).val σ=ah r):x=ah r:=by
 cases x with
 |none=>simp[T1]at h
 |some y=>exact h
theorem afE(hE:eC P E)(cf:Ok E σ w c)(dJ:fC E σ a w c)(hd:∀d,o.dst=ah d->d<a.tmps.size){cl:Call}(ho:o.op= .call cl)(hb:cl.callee= .builtin .cap)(h:(l_ E nm o).val σ=ah e):gU P E σ a w c o e.ws:=by
 simp only[l_,ho,hb]at h;split at h
 ·rename_i x t hx ht;obtain⟨k,hk,h⟩:=Rd.bind_some h;have hx:=ny hx;have ht:=ny ht;cases k with
  |l el=>
   obtain⟨v,h1,h⟩:=Rd.bind_some h;obtain⟨ev,kv⟩:=iX dJ h1;have hu:=kH hE hk;cases v with
   |nl=>refine f_ cf dJ hd h (v:=goInt 0) rfl (λn hn=>by simp[cJ,bN]at hn) ?_;obtain⟨cs,Hz⟩:=mP (P:=P) (a:=a) (w:=w) ho hb;rw[Hz,hx,ht];simp only[builtin,Dg,fB,BD];refine iW ?_;rw[show a.eval x= .slice aj 0 0 from ev];simp[Builtin.cap_,run_underlying hu]
   |_=>simp at h
  |_=>simp at h
 ·simp at h
theorem K5(dJ:fC E σ a w c)(mx:aW):∀(r:aC dx) (k:nc) (n:ax) (v:AV),(xG mx r k n).val σ=ah v->
  ∃m,v= .i k m/\((r.map a.eval).foldlM (if mx then DY else DZ) (.int k n)).run P w= .ok (.int k m) w:=by
 intro r;induction r with
 |nil=>intro k n v h;obtain rfl:=aJ h;exact⟨n,rfl,rfl⟩
 |cons x r ih=>
  intro k n v h;obtain⟨⟨k2,m⟩,h1,h2⟩:=Rd.bind_some h;have hx:=pQ dJ h1;obtain⟨q,hq,hr⟩:=ih k (im mx n m) v h2;refine⟨q,hq, ?_⟩
  simp only[fB,List.foldlM_cons,ch,hx];cases mx with
  |true=>
   have:(DY (.int k n) (.int k2 m)).run P w= .ok (.int k (im ai n m)) w:=by simp[DY,im]
   simp only[if_true,this,bF]at hr⊢;exact hr
  |false=>
   have:(DZ (.int k n) (.int k2 m)).run P w= .ok (.int k (im ak n m)) w:=by simp[DZ,im]
   simp only[du,if_false,this,bF]at hr⊢;exact hr
theorem EL(mx:aW)(cf:Ok E σ w c)(dJ:fC E σ a w c)(hd:∀d,o.dst=ah d->d<a.tmps.size){cl:Call}(ho:o.op= .call cl)(hb:cl.callee= .builtin (if mx then .max else .min))(h:(l_ E nm o).val σ=ah e):gU P E σ a w c o e.ws:=by
 have main:∀x r,cl.args.toList=x::r->((Ct x).bind λ(k,n)=>(xG mx r k n).bind λv=>zJ o v).val σ=ah e->gU P E σ a w c o e.ws:=by
  intro x r hx h;obtain⟨⟨k,n⟩,h1,h⟩:=Rd.bind_some h;obtain⟨v,h2,h⟩:=Rd.bind_some h;have ex:=pQ dJ h1;obtain⟨m,rfl,hr⟩:=K5 (P:=P) dJ mx r k n v h2;refine f_ cf dJ hd h (v:= .int k m) rfl (λn hn=>by simp[cJ,bN]at hn) ?_;obtain⟨cs,Hz⟩:=mP (P:=P) (a:=a) (w:=w) ho hb;have rZ:cl.args.map a.eval=((x::r).map a.eval).toArray:=by rw[<-hx];apply si;simp
  rw[Hz,rZ];cases mx with
  |true=>simp only[if_true,builtin];refine iW ?_;simp only[Builtin.max_,fB,ex];exact hr
  |false=>simp only[du,if_false,builtin];refine iW ?_;simp only[Builtin.min_,fB,ex];exact hr
 cases mx with
 |true=>
  simp only[l_,ho,hb,if_true]at h;split at h
  ·rename_i x r hx;exact main x r hx h
  ·simp at h
 |false=>
  simp only[l_,ho,hb,du,if_false]at h;split at h
  ·rename_i x r hx;exact main x r hx h
  ·simp at h
theorem Up{op:BinOp}{t:aE}{k:nc}{m n:ax}{b:aW}{v:AV}(hs:OZ op=ak)(h:adY op k m n=ah (b,v))(hb:b=ai):
  ∃u,eG E w c v u/\bN v=[]/\(binOp op t (.int k m) (.int k n)).run P w= .ok u w:=by
 subst hb;cases op<;>simp only[adY,jx,jd,true_and,reduceCtorEq]at h<;>first|(simp[OZ]at hs;done)|skip
 case quo=>
  obtain⟨h1,rfl⟩:=h;have hn:¬n=0:=by simpa using h1
  exact⟨_,rfl,rfl,by simp[binOp,Op.intDiv,hn]⟩
 case rem=>
  obtain⟨h1,rfl⟩:=h;have hn:¬n=0:=by simpa using h1
  exact⟨_,rfl,rfl,by simp[binOp,Op.intDiv,hn]⟩
 all_goals (subst h;exact⟨_,rfl,rfl,by simp[binOp,Op.intArith,Op.intBits,Op.intCmp]⟩)
theorem Uq{op:BinOp}{t:aE}{m n:aq}{b:aW}{v:AV}(hs:OZ op=ak)(h:ad0 op m n=ah (b,v))(hb:b=ai):
  ∃u,eG E w c v u/\bN v=[]/\(binOp op t (.string m) (.string n)).run P w= .ok u w:=by
 subst hb;cases op<;>simp only[ad0,jx,jd,true_and,reduceCtorEq]at h<;>first|(simp[OZ]at hs;done)|skip
 case add=>
  obtain⟨h1,rfl⟩:=h;have h1:=cm h1;refine⟨_,⟨rfl,by unfold DK;rw[dI];omega⟩,rfl, ?_⟩
  have:¬(((m.size+n.size:aE):ax)>ao.max):=by
   have:ao.max=9223372036854775807:=by decide
   omega
  simp only[binOp,Op.stringOp,bG this,cS]
 all_goals (subst h;exact⟨_,rfl,rfl,by simp[binOp,Op.stringOp]⟩)
theorem xQ{op:BinOp}{t:aE}{x y:dx}{u v:bj}(hu:∀xs,u≠ .agg xs)(hn:u≠ .nilIface):(eqGuard op t x y u v).run P w= .ok () w:=by unfold eqGuard;cases op<;>cases u<;>first|rfl|(exact cO rfl (hu _))|(exact cO rfl hn)|(cases v<;>rfl)
theorem xP{P:cZ}(w:bK){t:aE}(h:P.underlying t=ah .bool)(m n:aW):(binOp .eql t (.bool m) (.bool n)).run P w= .ok (.bool (m==n)) w/\(binOp .neq t (.bool m) (.bool n)).run P w= .ok (.bool !(m==n)) w:=by
 have h1:(Op.equal t (.bool m) (.bool n)).run P w= .ok (m==n) w:=by show(Op.equalIn (9999+1) t (.bool m) (.bool n)).run P w=_;exact run_equalIn_bool w 9999 t m n h
 simp only[binOp,ch,h1,bF,cS];exact⟨trivial,trivial⟩
theorem CD{xs:aC AV}{ks:aC Ck}(hk:xs.map GN=ks)(hp:plain ks=ai){vals:dq bj}(hs:vals.size=xs.length)(hv:∀(j:aE) (a:AV),xs[j]? =ah a->∃u:bj,vals[j]? =ah u/\eG E w c a u):vals=(xs.map lT).toArray:=by
 apply si;apply VC;intro j;simp only[cW,bJ];cases hx:xs[j]? with
 |none=>have:=List.getElem?_eq_none_iff.1 hx;simp;omega
 |some a=>
  obtain⟨u,hu,ha⟩:=hv j a hx;rw[hu];have hm:GN a∈ks:=by rw[<-hk];exact cX.2 ⟨a,aR hx,rfl⟩
  have mE:=bu.1 hp _ hm;cases a<;>simp[GN]at mE<;>first|(have h1:u=_:=ha;rw[h1];rfl)|(have h1:u=_:=ha.1;rw[h1];rfl)
theorem WC(hE:eC P E){op:BinOp}{t:aE}{x y:dx}{sx sy:SV}{ux uy:bj}(ex:jh E w c sx ux)(ey:jh E w c sy uy){b:aW}{v:AV}(h3:(adZ E t op sx sy).val σ=ah (b,v))(hc:b=ai):
  ∃u,eG E w c v u/\bN v=[]/\(do eqGuard op t x y ux uy;binOp op t ux uy).run P w= .ok u w:=by
 have fin:∀u,eG E w c v u->bN v=[]->(do eqGuard op t x y ux uy;binOp op t ux uy).run P w= .ok u w->∃u,eG E w c v u/\bN v=[]/\(do eqGuard op t x y ux uy;binOp op t ux uy).run P w= .ok u w:=
  λu hu hn hr=>⟨u,hu,hn,hr⟩
 have pl:∀u1 u2 r,ux=u1->uy=u2->(∀xs,u1≠ .agg xs)->u1≠ .nilIface->(binOp op t u1 u2).run P w= .ok r w->(do eqGuard op t x y ux uy;binOp op t ux uy).run P w= .ok r w:=by intro u1 u2 r h1 h2 h3 h4 h5;rw[h1,h2];simp only[ch,xQ (P:=P) (w:=w) (op:=op) (t:=t) (x:=x) (y:=y) (v:=u2) h3 h4,bF,h5]
 unfold adZ at h3;split at h3
 ·rename_i p q;have ex:eG E w c p ux:=ex;have ey:eG E w c q uy:=ey;cases mG:OZ op with
  |true=>
   rw[mG]at h3;replace h3:=zv h3;cases p<;>cases q<;>first|(simp[shV]at h3;done)|skip
   cases op<;>simp only[shV,jx,jd,reduceCtorEq]at h3<;>(obtain⟨rfl,rfl⟩:=h3)
   ·refine fin _ rfl rfl (pl _ _ _ ex ey (by simp) (by simp) ?_);have:¬(_:ax)<0:=Int.not_lt.2 (cm hc);simp[binOp,Op.shift,this]
   ·refine fin _ rfl rfl (pl _ _ _ ex ey (by simp) (by simp) ?_);have:¬(_:ax)<0:=Int.not_lt.2 (cm hc);simp[binOp,Op.shift,this]
  |false=>
   rw[mG]at h3;obtain⟨k,hk,h3⟩:=Rd.bind_some h3;replace h3:=zv h3;cases p with
   |i k1 m=>
    cases q with
    |i k2 n=>
     have h9:=h3;simp only[Kg]at h9;split at h9
     ·rename_i Sh;subst Sh;obtain⟨u,hu,hn,hr⟩:=Up (P:=P) (t:=t) (E:=E) (c:=c) (w:=w) mG h9 hc;exact fin u hu hn (pl _ _ _ ex ey (by simp) (by simp) hr)
     ·cases h9
    |_=>simp[Kg]at h3
   |s m=>
    cases q with
    |s n=>obtain⟨u,hu,hn,hr⟩:=Uq (P:=P) (t:=t) (E:=E) (c:=c) (w:=w) mG h3 hc;exact fin u hu hn (pl _ _ _ ex.1 ey.1 (by simp) (by simp) hr)
    |_=>simp[Kg]at h3
   |b m=>
    cases q with
    |b n=>
     have aad:k= .b->P.underlying t=ah .bool:=by rintro rfl;obtain⟨ti,q1,q2,q3⟩:=rF hk;obtain⟨d,hd',_,hn⟩:=hE.desc t ti q1;rcases hn q2 with ⟨k,h,_⟩|⟨h,rfl⟩|⟨h,_⟩|⟨e',h,_⟩|⟨h,_⟩<;>rw[q3]at h<;>simp_all
     cases op<;>cases k<;>simp only[Kg,jx,jd,reduceCtorEq]at h3<;>(obtain⟨rfl,rfl⟩:=h3)
     ·refine fin _ rfl rfl (pl _ _ _ ex ey (by simp) (by simp) ?_);exact(xP (P:=P) w (aad rfl) _ _).1
     ·refine fin _ rfl rfl (pl _ _ _ ex ey (by simp) (by simp) ?_);exact(xP (P:=P) w (aad rfl) _ _).2
    |_=>simp[Kg]at h3
   |_=>simp[Kg]at h3
 ·rename_i xs ys;obtain⟨ti,ht,h3⟩:=Rd.bind_some h3;have ht:=dX ht;obtain⟨h4,h3⟩:=cM h3;simp only[aL]at h4;obtain⟨⟨⟨⟨h5,h6⟩,h7⟩,h8⟩,h9⟩:=h4;have h7:=rC h7;have h8:=rC h8;replace h3:=zv h3;obtain⟨X,hX,sX,vX⟩:=ex;obtain⟨Y,hY,sY,vY⟩:=ey;have eX:=CD h7 h9 sX vX;have eY:=CD h8 h9 sY vY;cases hq:WO xs ys with
  |none=>rw[hq]at h3;cases h3
  |some r=>
   rw[hq]at h3;obtain⟨r1,r2⟩:=hE.eq t ti h6 ht w x y xs ys r hq h7 h8;cases op<;>first|(simp[isEq]at h5;done)|skip
   ·obtain⟨_,rfl⟩:=bT (aJ h3);exact fin _ rfl rfl (by rw[hX,hY,eX,eY];exact r1)
   ·obtain⟨_,rfl⟩:=bT (aJ h3);exact fin _ rfl rfl (by rw[hX,hY,eX,eY];exact r2)
 ·simp at h3
theorem TU(hE:eC P E)(cf:Ok E σ w c)(dJ:fC E σ a w c)(hd:∀d,o.dst=ah d->d<a.tmps.size){op:BinOp}{t ty:aE}{x y:dx}(ho:o.op= .binOp op t x y ty)(h:(l_ E nm o).val σ=ah e)(hc:e.cond=ai):gU P E σ a w c o e.ws:=by simp only[l_,ho]at h;obtain⟨sx,h1,h⟩:=Rd.bind_some h;obtain⟨sy,h2,h⟩:=Rd.bind_some h;obtain⟨⟨b,v⟩,h3,h⟩:=Rd.bind_some h;obtain rfl:=aJ h;obtain⟨u,hu,hn,hr⟩:=WC (P:=P) (x:=x) (y:=y) hE (mm dJ h1).1 (mm dJ h2).1 h3 hc;refine gF cf dJ hd (s:= .v ak [v]) hu (λn kF=>by simp[cJ,hn]at kF) ?_;unfold execOp;rw[ho];exact iW hr
end
end Go.FG

namespace Go.FG
theorem LK{p:Pl}(hn:p.nil=ak->p.n<=p.cap)(hz:p.nil=ai->p.n=0):wM p 0 p.n (lO p):=by
 refine⟨bB _,cw _,λh=>nB h,λh=> ?_⟩
 rw[e6 h];by_cases hc:p.cap=0
 ·refine .inr ⟨hc.symm,p.off,Nat.le_add_right _ _, ?_⟩;have:=hn h;rw[hc,show p.n=0 by omega]
 ·refine .inl ⟨by omega, ?_⟩;simp
theorem qH(xs:aQ):eW xs 0 xs.length=xs:=by unfold eW;simp
def oa(w:bK)(v:bj)(xs:aQ)(sz:aE)(R:aE->aE->bj->CV->Prop):Prop:=
 ∃A cp,v= .slice A xs.length cp/\(xs≠[]->∃b o,A=ah (ad b o)/\∀(i:aE) (y:aC CV) (j:aE) (x:CV),xs[i]? =ah y->y[j]? =ah x->∃u:bj,w.cell? (ad b (o+i*sz+j))=ah u/\R i j u x)
theorem oa.imp{w:bK}{v:bj}{xs:aQ}{sz:aE}{R R':aE->aE->bj->CV->Prop}(h:oa w v xs sz R)(hR:∀(i:aE) (y:aC CV) (j:aE) (x:CV) (u:bj),xs[i]? =ah y->y[j]? =ah x->R i j u x->R' i j u x):oa w v xs sz R':=by
 obtain⟨A,cp,h1,h2⟩:=h;refine⟨A,cp,h1,λiw=> ?_⟩
 obtain⟨b,o,h3,h4⟩:=h2 iw;refine⟨b,o,h3,λi y j x hi hj=> ?_⟩
 obtain⟨u,hu,hr⟩:=h4 i y j x hi hj;exact⟨u,hu,hR i y j x u hi hj hr⟩
theorem LD{w:bK}{p:Pl}{xs:aQ}{R:aE->aE->bj->CV->Prop}{lo hi:aE}{v:bj}(h:jg w p xs R)(hv:wM p lo hi v):oa w v (eW xs lo hi) p.sz (λi j u x=>R (lo+i) j u x):=by
 obtain⟨v1,v2,v3,v4⟩:=hv;have hl:=mv (xs:=xs) (lo:=lo) (hi:=hi) (by rw[<-h.n];exact v2);cases hq:p.nil with
 |true=>
  have hx:=(h.nil hq).1;have h0:=h.n;rw[hx]at h0;refine⟨aj,0, ?_,λiw=>cO (by rw[hx];unfold eW;simp) iw⟩
  rw[v3 hq,hl];have:p.n=0:=h0;congr 1;omega
 |false=>
  obtain⟨vals,hb,Sj,W2,mD,hc⟩:=h.mem hq;rcases v4 hq with ⟨u1,rfl⟩|⟨u1,oo,u2,rfl⟩
  ·refine⟨_,_,by rw[hl],λiw=>⟨_,_,rfl,λi y j x lZ hj=> ?_⟩⟩
   rw[tQ]at lZ;split at lZ
   ·obtain⟨u,hu,hr⟩:=hc (lo+i) y j x lZ hj;refine⟨u, ?_,hr⟩
    rw[hb.cell,<-hu];congr 1;rw[dp];omega
   ·cases lZ
  ·have h0:hi-lo=0:=by omega
   refine⟨_,_,by rw[hl,h0],λiw=>cO (gg (hl.trans h0)) iw⟩
theorem IJ{E:fU}{w:bK}{K:aE->Prop}{p:Pl}{e:aE}{te:TI}{xs:aQ}(he:E.ty e=ah te)(h:da E w K (lO p) (.l e xs))(hn:p.n=xs.length)(hs:p.sz=te.ks.length){lo hi:aE}{v:bj}(hv:wM p lo hi v):da E w K v (.l e (eW xs lo hi)):=by
 obtain⟨v1,v2,v3,v4⟩:=hv;have hl:=mv (xs:=xs) (lo:=lo) (hi:=hi) (by rw[<-hn];exact v2);have nil:hi-lo=0->eW xs lo hi=[]:=λh0=>gg (hl.trans h0);cases hq:p.nil with
 |true=>
  rw[nB hq]at h;have hx:xs=[]:=by cases h;rfl
  subst hx;have hn:p.n=0:=hn;rw[v3 hq,nil (by omega)];exact .nl _ _ _
 |false=>
  rw[e6 hq]at h;rcases v4 hq with ⟨u1,rfl⟩|⟨u1,oo,u2,rfl⟩
  ·have:=(EB (lo:=lo) (hi:=hi) he h v1 (by rw[<-hn];exact v2)).2;rw[bG (by omega)]at this;simpa only[jc,Addr.nV,hs]using this
  ·by_cases hz:hi-lo=0
   ·rw[nil hz];exact .nl _ _ _
   ·have h1:0<xs.length:=by omega
    obtain⟨t3,U,L⟩:=h.IY h1;have:=L.cap;omega
theorem zF{E:fU}{w:bK}{K:aE->Prop}{v:bj}{e:aE}{te:TI}{xs:aQ}(he:E.ty e=ah te)(h:da E w K v (.l e xs)):oa w v xs te.ks.length (λ_ _ u x=>da E w K u x)/\∀y∈xs,y.map CV.kd=te.ks:=by
 cases h with
 |nl=>exact⟨⟨_,_,rfl,λh=>cO rfl h⟩,λy hy=>by cases hy⟩
 |l _ _ b o cp ti U ht hc hm hK hs hcell gz=>obtain rfl:te=ti:=aJ (he.symm.trans ht);exact⟨⟨_,_,rfl,λ_=>⟨b,o,rfl,λi y j x hi hj=>⟨U i j,hcell i j y x hi hj,gz i j y x hi hj⟩⟩⟩,hs⟩
theorem pe{E:fU}{w:bK}{K:aE->Prop}{u:bj}{x:CV}(h:da E w K u x)(hl:uj x=ak):Sc u x:=by
 cases h with
 |i=>exact⟨rfl,trivial⟩
 |b=>exact⟨rfl,trivial⟩
 |s _ h=>exact⟨rfl,h⟩
 |nl=>simp[uj]at hl
 |l=>simp[uj]at hl
theorem kM{E:fU}{w:bK}{K:aE->Prop}{u:bj}{x:CV}(hl:uj x=ak)(h:Sc u x):da E w K u x:=by
 obtain⟨h1,h2⟩:=h;subst h1;cases x with
 |i k n=>exact .i k n
 |b x=>exact .b x
 |s x=>exact .s x h2
 |l=>simp[uj]at hl
theorem uB{E:fU}{w:bK}{G:aE->aE->Pl}{i j:aE}{u:bj}{x:CV}(h:XC E w G i j u x)(hl:uj x=ak):Sc u x:=by
 cases x with
 |l=>simp[uj]at hl
 |i=>exact h
 |b=>exact h
 |s=>exact h
theorem uz{E:fU}{w:bK}{G:aE->aE->Pl}{i j:aE}{u:bj}{x:CV}(hl:uj x=ak)(h:Sc u x):XC E w G i j u x:=by
 cases x with
 |l=>simp[uj]at hl
 |i=>exact h
 |b=>exact h
 |s=>exact h
theorem oa.list{w:bK}{v:bj}{xs:aQ}{sz:aE}{R:aE->aE->bj->CV->Prop}(h:oa w v xs sz R)(hs:∀y∈xs,y.length=sz):
  ∃(A:az Addr) (cp:aE) (news:aC bj),v= .slice A xs.length cp/\news.length=xs.length*sz/\(xs=[]\/∃b o,A=ah (ad b o)/\∀j u,news[j]? =ah u->w.cell? (ad b (o+j))=ah u)/\
   ∀(i:aE) (y:aC CV) (j:aE) (x:CV),xs[i]? =ah y->y[j]? =ah x->∃u:bj,news[i*sz+j]? =ah u/\R i j u x:=by
 obtain⟨A,cp,rfl,h2⟩:=h;by_cases hx:xs=[]
 ·subst hx;exact⟨A,cp,[],rfl,by simp, .inl rfl,λi y j x hi hj=>by simp at hi⟩
 ·obtain⟨b,o,h3,h4⟩:=h2 hx;have ex:∀q,q<xs.length*sz->∃u,w.cell? (ad b (o+q))=ah u:=by
   intro q hq;have gi:0<sz:=by rcases C3 sz with h|h;(subst h;simp at hq);exact h
   have hi:q/sz<xs.length:=by rw[yu gi];exact hq
   have hj:q%sz<xs[q/sz].length:=by rw[hs _ (bA hi)];exact C4 _ gi
   obtain⟨u,hu,_⟩:=h4 (q/sz) xs[q/sz] (q%sz) (xs[q/sz][q%sz]) (by simp[hi]) (by simp[hj]);refine⟨u, ?_⟩
   rw[<-hu];congr 2;have:=JG q sz;rw[D3]at this;omega
  refine⟨A,cp,(cR (xs.length*sz)).map (λq=>(w.cell? (ad b (o+q))).getD undef),rfl,by simp, .inr ⟨b,o,h3,λj u hj=> ?_⟩,λi y j x hi hj=> ?_⟩
  ·rw[bJ]at hj;by_cases jW:j<xs.length*sz
   ·obtain⟨u',r_⟩:=ex j jW;simp only[jW,vE,jc,r_,yI,jx]at hj;rw[r_,hj]
   ·rw[kT (l:=cR (xs.length*sz)) (by simpa using jW)]at hj;cases hj
  ·obtain⟨u,hu,hr⟩:=h4 i y j x hi hj;refine⟨u, ?_,hr⟩
   have hil:=(aT.1 hi).1;have jW:=(aT.1 hj).1;rw[hs y (aR hi)]at jW;have jm:i*sz+j<xs.length*sz:=by have:(i+1)*sz<=xs.length*sz:=bZ _ hil;rw[dp]at this;omega
   rw[bJ,vE jm,jc];rw[show o+(i*sz+j)=o+i*sz+j by omega,hu];rfl
section
variable {P:cZ} {E:fU} {σ:St} {a:Act} {w:bK} {c:eZ} {o:fA} {nm:aE} {e:sO}
theorem xN(cf:Ok E σ w c){nm e:aE}{ex:aW}{xs:aQ}(h:σ (c_ nm)= .o (.row e ex xs)){lo hi:aE}{v:bj}(hv:wM (c.P nm) lo hi v):
  ∃te,E.ty e=ah te/\(∀y∈eW xs lo hi,y.map CV.kd=te.ks)/\oa w v (eW xs lo hi) te.ks.length (λi j u x=>if ex=ai then XC E w (c.G nm) (lo+i) j u x else da E w c.K u x):=by obtain⟨⟨ti,h1,h2,h3⟩,h4,_⟩:=cf.obj nm _ h;have:=LD h4 hv;rw[h2]at this;exact⟨ti,h1,λy hy=>h3 y (Ci hy),this⟩
theorem v_(cf:Ok E σ w c){nm e:aE}{ex:aW}{xs:aQ}(h:σ (c_ nm)= .o (.row e ex xs)):wM (c.P nm) 0 xs.length (lO (c.P nm)):=by obtain⟨h1,h2,ti,h3,h4,h5⟩:=lh cf h;rw[<-h1];exact LK (λhn=>(h5 hn).1) (λhn=>by rw[h1,h2 hn];rfl)
theorem Ix(cf:Ok E σ w c){nm e:aE}{xs:aQ}(h:σ (c_ nm)= .o (.fV e xs)):wM (c.P nm) 0 xs.length (lO (c.P nm)):=by
 obtain⟨h1,h2,ti,h3,h4⟩:=mU cf h;rw[<-h1];refine LK (λhn=> ?_) (λhn=>by rw[h1,h2 hn];rfl);obtain⟨j1,j2,_⟩:=cf.obj nm _ h;rw[e6 hn]at j1;by_cases hz:0<xs.length
 ·obtain⟨t3,U,L⟩:=j1.IY hz;rw[j2];exact L.cap
 ·omega
theorem pd(cf:Ok E σ w c){nm e:aE}{xs:aQ}(h:σ (c_ nm)= .o (.fV e xs)){lo hi:aE}{v:bj}(hv:wM (c.P nm) lo hi v):da E w c.K v (.l e (eW xs lo hi)):=by obtain⟨h1,h2,ti,h3,h4⟩:=cf.obj nm _ h;exact IJ h3 h1 h2 h4 hv
theorem Be(cf:Ok E σ w c){nm e e2 i j:aE}{xs:aQ}{te:TI}(h:σ (c_ nm)= .o (.row e ai xs))(ht:E.ty e=ah te)(hk:te.ks[j]? =ah (.l e2))(hi:i<(c.P nm).n):
  ∃ys y t2,xs[i]? =ah y/\y[j]? =ah (.l e2 ys)/\E.ty e2=ah t2/\plain t2.ks=ai/\(c.G nm i j).sz=t2.ks.length/\(∀y∈ys,y.map CV.kd=t2.ks)/\jg w (c.G nm i j) ys (λ_ _ u x=>Sc u x)/\wM (c.G nm i j) 0 ys.length (lO (c.G nm i j)):=by
 obtain⟨⟨tj,htj,gi,mG⟩,gh,_⟩:=cf.obj nm _ h;obtain rfl:te=tj:=aJ (ht.symm.trans htj);obtain⟨zs,y,hy,hyj,uu,_,tk,GL,sL,KS,DF,oF⟩:=uw (c:=c) gh mG hi hk;refine⟨zs,y,tk,hy,hyj,GL,sL,KS,DF,oF, ?_⟩
 have:=LK (p:=c.G nm i j) (λhn=>by obtain⟨_,_,q,_⟩:=oF.mem hn;exact q) (λhn=>by rw[oF.n,(oF.nil hn).1];rfl);rwa[oF.n]at this
theorem OU{E:fU}{w:bK}{K:aE->Prop}{v:bj}{e:aE}{xs:aQ}(h:da E w K v (.l e xs)):xs.length<=maxLen:=by
 cases h with
 |nl=>exact bB _
 |l _ _ b o cp ti U ht hc hm=>exact dg hc hm
theorem uv{w:bK}{p:Pl}{xs:aQ}{R:aE->aE->bj->CV->Prop}(h:jg w p xs R):xs.length<=maxLen:=by
 cases hn:p.nil with
 |true=>rw[(h.nil hn).1];exact bB _
 |false=>obtain⟨vals,_,h2,h3,_⟩:=h.mem hn;rw[<-h.n];exact dg h2 h3
theorem JD(xs:aQ)(lo hi:aE):(eW xs lo hi).length<=xs.length:=by unfold eW;simp;omega
theorem z_(cf:Ok E σ w c){x:AV}{v:bj}(hx:eG E w c x v){el:aE}{xs:aQ}{te:TI}(h:(mz E x).val σ=ah (el,xs))(ht:E.ty el=ah te)(hp:plain te.ks=ai):
  oa w v xs te.ks.length (λ_ _ u x=>Sc u x)/\(∀y∈xs,y.map CV.kd=te.ks)/\xs.length<=maxLen:=by
 have ofH:∀{xs:aQ} {v:bj},da E w c.K v (.l el xs)->oa w v xs te.ks.length (λ_ _ u x=>Sc u x)/\(∀y∈xs,y.map CV.kd=te.ks)/\xs.length<=maxLen:=by intro xs v hh;obtain⟨h1,h2⟩:=zF ht hh;exact⟨h1.imp λi y j x u hi hj hr=>pe hr (iq hp (h2 y (aR hi)) hj),h2,OU hh⟩
 have ofR:∀{nm:aE} {ex:aW} {xs:aQ} {lo hi:aE} {v:bj},σ (c_ nm)= .o (.row el ex xs)->wM (c.P nm) lo hi v->oa w v (eW xs lo hi) te.ks.length (λ_ _ u x=>Sc u x)/\(∀y∈eW xs lo hi,y.map CV.kd=te.ks)/\(eW xs lo hi).length<=maxLen:=by
  intro nm ex xs lo hi v hg hv;obtain⟨t2,q1,q2,q3⟩:=xN cf hg hv;obtain rfl:te=t2:=aJ (ht.symm.trans q1);refine⟨q3.imp λi y j x u hi hj hr=> ?_,q2,dg (JD _ _ _) (uv (cf.obj nm _ hg).at_)⟩
  have hl:=iq hp (q2 y (aR hi)) hj;split at hr
  ·exact uB hr hl
  ·exact pe hr hl
 cases x with
 |sh e' ys=>obtain⟨rfl,rfl⟩:=bT (aJ h);exact ofH hx
 |own n=>
  obtain⟨ob,hg,h⟩:=Rd.bind_some h;have hg:=dy hg;have hx:v=lO (c.P n):=hx;subst hx;cases ob with
  |row e' ex ys=>obtain⟨rfl,rfl⟩:=bT (aJ h);have:=ofR hg (v_ cf hg);rwa[qH]at this
  |fV e' ys=>obtain⟨rfl,rfl⟩:=bT (aJ h);have:=ofH (pd cf hg (Ix cf hg));rwa[qH]at this
  |_=>simp at h
 |vw n lo hi=>
  obtain⟨ob,hg,h⟩:=Rd.bind_some h;have hg:=dy hg;cases ob with
  |row e' ex ys=>obtain⟨rfl,rfl⟩:=bT (aJ h);exact ofR hg hx
  |fV e' ys=>obtain⟨rfl,rfl⟩:=bT (aJ h);exact ofH (pd cf hg hx)
  |_=>simp at h
 |inn n i j=>
  obtain⟨ob,hg,h⟩:=Rd.bind_some h;have hg:=dy hg;cases ob with
  |row e' ex ys=>
   cases ex with
   |false=>simp at h
   |true=>
   obtain⟨t1,ht1,h⟩:=Rd.bind_some h;have ht1:=dX ht1;split at h
   ·rename_i e2 zW;obtain⟨rfl,rfl⟩:=bT (aJ h);obtain⟨⟨j7,hx⟩,_⟩:=hx;obtain⟨zs,y,t2,q1,q2,q3,q4,q5,q6,q7,q8⟩:=Be cf hg ht1 zW j7;obtain rfl:te=t2:=aJ (ht.symm.trans q3);rw[fD q1 q2];have:=LD q7 q8;rw[qH,q5]at this;subst hx;exact⟨this,q6,uv q7⟩
   ·simp at h
  |_=>simp at h
 |_=>simp[mz]at h
end
end Go.FG

namespace Go.FG
def gb(E:fU)(w:bK)(c:eZ)(vals:dq bj)(xs:aC AV):Prop:=
 vals.size=xs.length/\∀(j:aE) (a:AV),xs[j]? =ah a->∃u:bj,vals[j]? =ah u/\eG E w c a u
theorem qa.cells{E:fU}{w:bK}{c:eZ}{agg:aW}{xs:aC AV}{v:bj}(h:qa E w c agg xs v):gb E w c v.cells xs:=by
 unfold qa at h;split at h
 ·rename_i a;rw[Ej h.one];refine⟨rfl,λj a' hj=> ?_⟩
  cases j with
  |zero=>simp at hj;subst hj;exact⟨v,rfl,h⟩
  |succ=>simp at hj
 ·obtain⟨vals,rfl,hs,hv⟩:=h;exact⟨hs,hv⟩
 ·exact h.elim
theorem gb.one{E:fU}{w:bK}{c:eZ}{xs:aC AV}{vals:dq bj}(h:gb E w c vals xs):∀u∈vals.toList,u.oneCell'=true:=by
 intro u hu;obtain⟨j,hj⟩:=bX hu;have jm:j<xs.length:=by rw[<-h.1];have:=(aT.1 hj).1;simpa using this
 obtain⟨u',h1,h2⟩:=h.2 j xs[j] (by simp[jm]);rw[cW,h1]at hj;cases hj;exact h2.one
theorem vj{α:Type}{xs ys:aC α}{j:aE}(h:j+ys.length<=xs.length):(iD xs j ys).length=xs.length:=by unfold iD;simp;omega
theorem pj{α:Type}{xs ys:aC α}{j:aE}(h:j+ys.length<=xs.length)(k:aE):(iD xs j ys)[k]? =if j<=k/\k<j+ys.length then ys[k-j]? else xs[k]? :=by
 unfold iD;by_cases h1:k<j
 ·rw[bG (by omega),cq,dF (by simp;omega),d_,bw h1]
 ·by_cases h2:k<j+ys.length
  ·rw[bw ⟨by omega,h2⟩,cq,dc (by simp;omega),dF (by simp;omega)];congr 1;simp;omega
  ·rw[bG (by omega),cq,dc (by simp;omega),dc (by simp;omega),dR];congr 1;simp;omega
theorem Cg{α:Type}{xs ys:aC α}{j:aE}{x:α}(h:x∈iD xs j ys):x∈xs\/x∈ys:=by
 unfold iD at h;simp only[bc]at h;rcases h with (h|h)|h
 ·exact .inl (kV h)
 ·exact .inr h
 ·exact .inl (kU h)
theorem gb.put{E:fU}{w:bK}{c:eZ}{xs ys:aC AV}{vals vs:dq bj}(h:gb E w c vals xs)(h':gb E w c vs ys){j:aE}(hl:j+ys.length<=xs.length):gb E w c (ed vals j vs.toList) (iD xs j ys):=by
 have hb:j+vs.toList.length<=vals.size:=by rw[h.1,dS,h'.1];exact hl
 refine⟨by rw[e8 hb,vj hl];exact h.1,λk a hk=> ?_⟩
 rw[pj hl]at hk;rw[gu hb,dS,h'.1];split at hk
 ·rename_i hc;rw[bw hc,cW];exact h'.2 _ a hk
 ·rename_i hc;rw[bG hc];exact h.2 k a hk
theorem R8(off:aE):∀(l:aC bj) (k:aE) (cells:dq bj),off+k+l.length<=cells.size->
  ((l.zipIdx k).foldl (λr p=>r.setIfInBounds (off+p.2) p.1) cells).size=cells.size/\
  ∀q:aE,((l.zipIdx k).foldl (λr p=>r.setIfInBounds (off+p.2) p.1) cells)[q]? =if off+k<=q/\q<off+k+l.length then l[q-(off+k)]? else cells[q]? :=by
 intro l;induction l with
 |nil=>intro k cells _;refine⟨rfl,λq=> ?_⟩;rw[bG (by simp)];rfl
 |cons v rest ih=>
  intro k cells hl;simp only[de]at hl;obtain⟨h1,h2⟩:=ih (k+1) (cells.setIfInBounds (off+k) v) (by simp;omega);simp only[List.zipIdx_cons,Df];refine⟨by rw[h1];simp,λq=> ?_⟩
  rw[h2 q];by_cases hq:q=off+k
  ·subst hq;rw[bG (by omega),bw ⟨by omega,by simp⟩,n9,bw rfl,bw (by omega)];simp
  ·by_cases hr:off+(k+1)<=q/\q<off+(k+1)+rest.length
   ·rw[bw hr,bw ⟨by omega,by simp;omega⟩];rw[show q-(off+k)=(q-(off+(k+1)))+1 by omega,dO]
   ·rw[bG hr,bG (by simp;omega),n9,bG (λh=>hq h.symm)]
theorem Es{off:aE}{vs cells:dq bj}(h:off+vs.size<=cells.size):(vs.zipIdx.foldl (λr (p:bj×aE)=>r.setIfInBounds (off+p.2) p.1) cells)=ed cells off vs.toList:=by
 rw[<-Array.foldl_toList,Array.toList_zipIdx];obtain⟨h1,h2⟩:=R8 off vs.toList 0 cells (by simpa using h);have hb:off+vs.toList.length<=cells.size:=by simpa using h
 apply Array.ext_getElem?;intro q;rw[h2 q,gu hb];simp
theorem PN{E:fU}{w:bK}{c:eZ}{k:Ck}(h:(match k with| .o=>ak|_=>ai)=ai):eG E w c (CZ k) (iJ k):=by cases k<;>first|rfl|exact⟨rfl,bB _⟩|simp at h
theorem Cm(k:Ck):bN (CZ k)=[]:=by cases k<;>rfl
theorem JF{E:fU}{w:bK}{c:eZ}{ks:aC Ck}(h:K9 ks=ai):gb E w c (ks.map iJ).toArray (ks.map CZ):=by
 refine⟨by simp,λj a hj=> ?_⟩
 rw[bJ]at hj;cases hk:ks[j]? with
 |none=>rw[hk]at hj;cases hj
 |some k=>rw[hk]at hj;cases hj;exact⟨iJ k,by simp[hk],PN (bu.1 h k (aR hk))⟩
section
variable {P:cZ} {E:fU} {σ:St} {a:Act} {w:bK} {c:eZ} {o:fA} {nm:aE} {e:sO}
theorem Po(hE:eC P E)(dJ:fC E σ a w c){t:aE}{pl:aC (aE×aE)}{size:aE}(sL:∀f o n,E.fo t f=ah (o,n)->pl[f]? =ah (o,n)/\o+n<=size):∀(ps:aC (aE×dx)) (l:aC (aE×aC AV)),(G0 E t ps).val σ=ah l->
  ∀(vals:dq bj) (xs:aC AV),gb E w c vals xs->xs.length=size->(∀a∈xs,jf σ a)->
  ∃i9,pr (λi=>pl[i]?) vals (ps.map λ(i,x)=>(i,a.eval x))=ah i9/\gb E w c i9 (MW xs l)/\(∀a∈MW xs l,jf σ a):=by
 intro ps;induction ps with
 |nil=>intro l h vals xs hv _ hk;obtain rfl:=aJ h;exact⟨vals,rfl,hv,hk⟩
 |cons p r ih=>
  obtain⟨f,x⟩:=p;intro l h vals xs hv gi hk;obtain⟨v,h1,h⟩:=Rd.bind_some h;obtain⟨OX,hkv⟩:=mm dJ h1;cases v with
  |v g ys=>
   replace h:(match E.fo t f with|some (o,n)=>bif bD ys.length n then(G0 E t r).bind λl=> .ret ((o,ys)::l)else .fail|none=> .fail:Rd (aC (aE×aC AV))).val σ=ah l:=h;cases hf:E.fo t f with
   |none=>rw[hf]at h;simp at h
   |some q=>
    obtain⟨off,n⟩:=q;rw[hf]at h;obtain⟨hn,h⟩:=cM h;have hn:=aU hn;obtain⟨l',hl',h⟩:=Rd.bind_some h;obtain rfl:=aJ h;obtain⟨OY,hp2⟩:=sL f off n hf;have hc:=qa.cells OX;have mD:off+ys.length<=xs.length:=by omega
    obtain⟨i9,q1,q2,q3⟩:=ih l' hl' (ed vals off (a.eval x).cells.toList) (iD xs off ys) (hv.put hc mD) (by rw[vj mD];exact gi)
     (λb hb=>by
      rcases Cg hb with hb|hb
      ·exact hk b hb
      ·exact λn hn=>hkv n (bL.2 ⟨b,hb,hn⟩))
    refine⟨i9, ?_,q2,q3⟩
    simp only[fB,pr,OY];have c1:(a.eval x).cells.size=n:=by rw[hc.1,hn]
    have c2:¬(off+(a.eval x).cells.size>vals.size):=by rw[hc.1,hv.1];omega
    rw[bG (by simp[c1];rw[c1]at c2;omega)];have:=Es (off:=off) (vs:=(a.eval x).cells) (cells:=vals) (by omega);rw[<-q1];exact lI (λz=>pr (λi=>pl[i]?) z _) this
  |j9=>simp at h
  |un=>simp at h
theorem TV(hE:eC P E)(cf:Ok E σ w c)(dJ:fC E σ a w c)(hd:∀d,o.dst=ah d->d<a.tmps.size){t:aE}{ps:dq (aE×dx)}(ho:o.op= .build t ps)(h:(l_ E nm o).val σ=ah e):gU P E σ a w c o e.ws:=by simp only[l_,ho]at h;obtain⟨ti,h1,h⟩:=Rd.bind_some h;obtain⟨hb,h⟩:=cM h;obtain⟨l,h2,h⟩:=Rd.bind_some h;have ht:=dX h1;simp only[aL]at hb;obtain⟨xA,ui⟩:=hb;obtain⟨inf,hi,gi,_,_,hz⟩:=hE.info t ti ht;obtain⟨z,JL,DI,_⟩:=hz xA;obtain⟨d,hd',ha,_⟩:=hE.desc t ti ht;obtain⟨fs,rfl,KM⟩:=ha ui;obtain⟨pl,OY,hp2⟩:=hE.pl t ti ht ui fs hd';obtain⟨vals,q1,q2,q3⟩:=Po (size:=ti.ks.length) hE dJ (λf o n hf=>⟨hp2 f o n hf,(KM f o n hf).choose_spec.2.2.2.2⟩) ps.toList l h2 _ _ (JF (w:=w) (c:=c) (E:=E) xA) (by simp) (λb hb=>by obtain⟨k,_,rfl⟩:=cX.1 hb;exact uk (Cm k));refine f_ cf dJ hd h (v:= .agg vals) ⟨vals,rfl,q2.1,q2.2⟩ (λn hn=>by obtain⟨x,hx,hn⟩:=bL.1 hn;exact q3 x hx n hn) ?_;unfold execOp;rw[ho];refine iW (run_build w t _ vals ?_);simp only[Program.built,hi,hd',JL,OY,DI,h_,Ae];exact q1
theorem TX(hE:eC P E)(cf:Ok E σ w c)(dJ:fC E σ a w c)(hd:∀d,o.dst=ah d->d<a.tmps.size){t f:aE}{x:dx}(ho:o.op= .field t x f)(h:(l_ E nm o).val σ=ah e):gU P E σ a w c o e.ws:=by
 simp only[l_,ho]at h;obtain⟨v,h1,h⟩:=Rd.bind_some h;obtain⟨hv,hk⟩:=mm dJ h1;cases v with
 |v g xs=>
  cases g with
  |true=>
   cases hf:E.fo t f with
   |none=>rw[hf]at h;simp at h
   |some r=>
    obtain⟨j,n⟩:=r;rw[hf]at h;obtain⟨hb,h⟩:=cM h;rw[aL]at hb;cases hx:xs.drop j with
    |nil=>rw[hx]at h;simp at h
    |cons y ys=>
     rw[hx]at h;have hj:xs[j]? =ah y:=by have:=dR (xs:=xs) (i:=j) (j:=0);rw[hx]at this;simpa using this.symm
     obtain⟨vals,q1,q2,q3⟩:∃vals:dq bj,a.eval x= .agg vals/\vals.size=xs.length/\∀(j:aE) (b:AV),xs[j]? =ah b->∃u:bj,vals[j]? =ah u/\eG E w c b u:=hv;obtain⟨u,hu,VP⟩:=q3 j y hj;obtain⟨ti,ht,ui⟩:=hE.fo t f j n hf;obtain⟨d,hd',ha,_⟩:=hE.desc t ti ht;obtain⟨fs,rfl,KM⟩:=ha ui;obtain⟨fd,g1,g2,_⟩:=KM f j n hf;have hAg:=hE.fl t f hb.1 fs fd hd' g1 w;refine f_ cf dJ hd h (s:= .v ak [y]) (v:=u) VP (λm hm=>hk m (bL.2 ⟨y,aR hj,by simpa [cJ]using hm⟩)) ?_;unfold execOp;rw[ho];refine iW ?_;simp only[Instr.field,ch,run_underlying hd',bF,g1,q1,asAgg,cS,part,hAg,du,if_false,g2,hu]
  |false=>simp at h
 |j9=>simp at h
 |un=>simp at h
theorem TT(hE:eC P E)(cf:Ok E σ w c)(dJ:fC E σ a w c)(hd:∀d,o.dst=ah d->d<a.tmps.size){t:aE}(ho:o.op= .alloc t)(h:(l_ E nm o).val σ=ah e):gU P E σ a w c o e.ws:=by
 simp only[l_,ho]at h;obtain⟨ti,h1,h⟩:=Rd.bind_some h;obtain⟨hb,h⟩:=cM h;obtain⟨u,h2,h⟩:=Rd.bind_some h;obtain⟨hf,jm⟩:=kE h2;obtain rfl:=aJ h;have hr:=PA (P:=P) w hE (dX h1) hb;refine B8 cf dJ hd (p:=⟨ak,w.heap.size,0,0,0,0⟩) (g:=λ_ _=>⟨ak,0,0,0,0,0⟩) hf jm (λc' hP _ _ _=> ?_) (λc' hP _ b hb=> ?_) (λxs hx b hb=> ?_) (λc' hP _=> ?_) (λn hn=> .inl (by simpa [cJ,bN]using hn)) (λb hb=>heap_alloc_old w _ b hb) (by simp) rfl rfl rfl (v:= .pointer (ah (ad w.heap.size 0))) (w':=w.alloc (.cells (ti.ks.map iJ).toArray t)) ?_
 ·obtain⟨z1,z2⟩:=JF (E:=E) (w:=w.alloc (.cells (ti.ks.map iJ).toArray t)) (c:=c') hb;exact⟨_,by rw[hP];exact nQ.alloc w _ t,z1,z2⟩
 ·have:b=(c'.P nm).blk:=hb;rw[this,hP];exact cw _
 ·cases hx;obtain⟨k,_,rfl⟩:=cX.1 hb;exact uk (Cm k)
 ·show _=_;rw[hP]
 ·unfold execOp;rw[ho];exact iW hr
theorem afD(cf:Ok E σ w c)(dJ:fC E σ a w c)(hd:∀d,o.dst=ah d->d<a.tmps.size){t:aE}{x:dx}(ho:o.op= .box t x)(h:(l_ E nm o).val σ=ah e):gU P E σ a w c o e.ws:=by
 simp only[l_,ho]at h;obtain⟨v,h1,h⟩:=Rd.bind_some h;obtain⟨hv,hk⟩:=mm dJ h1;cases v with
 |v g xs=>
  obtain⟨u,h2,h⟩:=Rd.bind_some h;obtain⟨hf,jm⟩:=kE h2;obtain rfl:=aJ h;have hr:=Ur (P:=P) w t (a.eval x);have kx:∀b∈xs,jf σ b:=λb hb n hn=>hk n (bL.2 ⟨b,hb,hn⟩);have pw:=qa.cells hv;refine B8 cf dJ hd (p:=⟨ak,w.heap.size,0,0,0,0⟩) (g:=λ_ _=>⟨ak,0,0,0,0,0⟩) hf jm (λc' hP _ hK hA=> ?_) (λc' hP _ b hb=> ?_) (λys hx b hb=> ?_) (λc' hP _=> ?_) (λn hn=> .inl (by simpa [cJ,bN]using hn)) (λb hb=>heap_alloc_old w _ b hb) (by simp) rfl rfl rfl (v:= .pointer (ah (ad w.heap.size 0))) (w':=w.alloc (.cells (a.eval x).cells t)) ?_
  ·refine⟨_,by rw[hP];exact nQ.alloc w _ t,pw.1,λj y hj=> ?_⟩
   obtain⟨u,hu,hy⟩:=pw.2 j y hj;exact⟨u,hu,hy.frame (λb hb=>heap_alloc_old w _ b (cf.lt b hb)) hK (λn hn=>hA n (.inl (kx y (aR hj) n hn)))⟩
  ·have:b=(c'.P nm).blk:=hb;rw[this,hP];exact cw _
  ·cases hx;exact kx b hb
  ·show _=_;rw[hP]
  ·unfold execOp;rw[ho];exact iW hr
 |j9=>simp at h
 |un=>simp at h
end
end Go.FG

namespace Go.FG
def K7(E:fU)(ks:aC Ck)(_i j:aE):Pl:=
 ⟨ai,0,0,0,0,match ks[j]? with|some (.l e)=>(match E.ty e with|some t=>t.ks.length|none=>0)|_=>0⟩
theorem vV{p:Pl}{G:aE->aE->Pl}{xs:aQ}(h:∀i j,(G i j).nil=ai):Fh p G xs:=
 ⟨λi j _ hn=>(by rw[h]at hn;cases hn),λi j i' j' _ _ hn=>(by rw[h]at hn;cases hn)⟩
theorem N9{E:fU}{w:bK}{ks:aC Ck}(hf:flat E ks=ai)(hn:K9 ks=ai){i j:aE}{k:Ck}(hk:ks[j]? =ah k):XC E w (K7 E ks) i j (iJ k) (zL k):=by
 have h1:=bu.1 hf k (aR hk);have h2:=bu.1 hn k (aR hk);cases k with
 |l e=>
  replace h1:(match E.ty e with|some ti=>plain ti.ks|none=>ak)=true:=h1;cases ht:E.ty e with
  |none=>rw[ht]at h1;cases h1
  |some t=>
   rw[ht]at h1;refine⟨rfl,t,ht,h1, ?_,λy hy=>(by cases hy),⟨rfl,λ_=>⟨rfl,rfl⟩,λh=>by cases h⟩⟩
   show(match ks[j]? with|some (.l e)=>(match E.ty e with|some t=>t.ks.length|none=>0)|_=>0)=_;rw[hk];simp only[ht]
 |o=>cases h2
 |s=>exact⟨rfl,bB _⟩
 |_=>exact⟨rfl,trivial⟩
theorem LQ{E:fU}{w:bK}{K:aE->Prop}{k:Ck}(h2:(match k with| .o=>ak|_=>ai)=ai):da E w K (iJ k) (zL k):=by
 cases k with
 |o=>cases h2
 |i k=>exact .i _ _
 |b=>exact .b _
 |s=>exact .s _ (bB _)
 |l e=>exact .nl _ _ _
theorem Zp{k:Ck}(h2:(match k with| .o=>ak|_=>ai)=ai):(zL k).kd=k:=by cases k<;>first|rfl|cases h2
theorem yq{ks:aC Ck}(hn:K9 ks=ai)(n:aE):∀y∈aN ks n,y.map CV.kd=ks:=by
 intro y hy;rw[(List.mem_replicate.1 hy).2,mg];have:∀k∈ks,(CV.kd∘zL) k=k:=λk hk=>Zp (bu.1 hn k hk);conv=>rhs;rw[<-List.map_id ks]
 exact PS this
theorem uD{ks:aC Ck}{n i j:aE}{y:aC CV}{x:CV}(hi:(aN ks n)[i]? =ah y)(hj:y[j]? =ah x):i<n/\∃k,ks[j]? =ah k/\x=zL k:=by
 unfold aN at hi;have jm:=(aT.1 hi).1;rw[List.length_replicate]at jm;rw[List.getElem?_replicate,bw jm]at hi;cases hi;rw[bJ]at hj;cases hk:ks[j]? with
 |none=>rw[hk]at hj;cases hj
 |some k=>rw[hk]at hj;cases hj;exact⟨jm,k,rfl,rfl⟩
theorem lP{ks:aC Ck}{n i j:aE}{k:Ck}(hi:i<n)(hk:ks[j]? =ah k):(madeCells (ks.map iJ).toArray (n*ks.length))[i*ks.length+j]? =ah (iJ k):=by
 have hj:=(aT.1 hk).1;have jm:i*ks.length+j<n*ks.length:=by have:(i+1)*ks.length<=n*ks.length:=bZ _ hi;rw[dp]at this;omega
 have hm:(i*ks.length+j)%ks.length=j:=by rw[D3,Nat.mul_add_mod];exact Nat.mod_eq_of_lt hj
 unfold madeCells;rw[Oa,Array.getElem?_range,bw jm,jc];congr 1;simp only[VE,bR,hm];rw[getElem!_def,h_,bJ,hk];rfl
theorem zp{P:cZ}{E:fU}{σ:St}(hE:eC P E){t:aE}{k:nc}(h:(pP E t).val σ=ah (.i k)):P.underlying t=ah (.int k):=by obtain⟨ti,h1,h2,h3⟩:=rF h;obtain⟨d,hd,_,hn⟩:=hE.desc t ti h1;rcases hn h2 with ⟨k,h,rfl⟩|⟨h,_⟩|⟨h,_⟩|⟨e',h,_⟩|⟨h,_⟩<;>rw[h3]at h<;>simp_all
theorem ML{P:cZ}{E:fU}(hE:eC P E){e:aE}{te:TI}(ht:E.ty e=ah te)(h:(u8s te.ks&& !te.agg)=ai):te.ks=[.i .u8]/\P.underlying e=ah (.int .u8):=by
 simp only[aL,dv]at h;have hk:te.ks=[.i .u8]:=by
  have:=h.1;unfold u8s at this;split at this
  ·assumption
  ·cases this
 obtain⟨d,hd,_,hn⟩:=hE.desc e te ht;refine⟨hk, ?_⟩
 rcases hn h.2 with ⟨k,h,rfl⟩|⟨h,_⟩|⟨h,_⟩|⟨e',h,_⟩|⟨h,_⟩<;>rw[hk]at h<;>simp_all
section
variable {P:cZ} {E:fU} {σ:St} {a:Act} {w:bK} {c:eZ} {o:fA} {nm:aE} {e:sO}
theorem PB(hE:eC P E){src dst el:aE}{te:TI}(hs:P.underlying src=ah (.slice el))(hd:P.underlying dst=ah .string)(he:P.underlying el=ah (.int .u8))(hk:te.ks=[.i .u8]){v:bj}{xs:aQ}
  (h:oa w v xs te.ks.length (λ_ _ u x=>Sc u x)) (mG:∀y∈xs,y.map CV.kd=te.ks):(convert src dst v).run P w= .ok (.string (bytesOf xs)) w:=by
 obtain⟨A,cp,rfl,h2⟩:=h;by_cases hx:xs=[]
 ·subst hx;rw[jL];have e0:bytesOf []=Hm:=rfl;rw[e0];cases A with
  |none=>exact run_convert_bytes_nil w src el hs he 0 cp dst hd
  |some ad'=>rw[run_convert_bytes_string w src dst el _ 0 cp hs he hd];exact run_bytesToString w ad' 0 cp [] rfl
 ·obtain⟨b,oo,rfl,h3⟩:=h2 hx;have:=run_convert_bytes_arg w src el hs he b oo xs.length cp (xs.map λy=>bI (y.getD 0 (.b ak))) (by simp) (λi hi=>by
   have hy:=mG xs[i] (bA hi);rw[hk]at hy;cases hq:xs[i]with
   |nil=>rw[hq]at hy;cases hy
   |cons x r=>
    rw[hq]at hy;simp only[fB,Z2,List.map_eq_nil_iff]at hy;obtain⟨hx1,rfl⟩:=hy;obtain⟨u,hu,hr⟩:=h3 i xs[i] 0 x (by simp[hi]) (by rw[hq];rfl);rw[hk]at hu;simp only[de,jL,bS,Nat.mul_one,yH]at hu;rw[hu,hr.1];cases x with
    |i k n=>cases hx1;simp[PF,j_,hi,hq,bI]
    |_=>cases hx1) dst hd
  rw[this];unfold strOfNums bytesOf;rw[mg];rfl
theorem gJ(xs:aQ):(bytesOf xs).size=xs.length:=by unfold bytesOf;simp[cj]
theorem l8(s:aq):(qD s).length=s.size:=by unfold qD;simp
theorem G5{s:aq}{i j:aE}{y:aC CV}{x:CV}(hi:(qD s)[i]? =ah y)(hj:y[j]? =ah x):j=0/\∃b,s.data[i]? =ah b/\x= .i .u8 (b.toNat:ax):=by
 unfold qD at hi;rw[bJ,cW]at hi;cases hb:s.data[i]? with
 |none=>rw[hb]at hi;cases hi
 |some b=>
  rw[hb]at hi;cases hi;cases j with
  |zero=>cases hj;exact⟨rfl,b,rfl,rfl⟩
  |succ j=>simp at hj
theorem Jl(s:aq):∀y∈qD s,y.map CV.kd=[.i .u8]:=by intro y hy;obtain⟨b,_,rfl⟩:=cX.1 hy;rfl
theorem Lb(hE:eC P E)(cf:Ok E σ w c)(dJ:fC E σ a w c)(hd:∀d,o.dst=ah d->d<a.tmps.size){src dst:aE}{x:dx}(ho:o.op= .convert src dst x)(h:(l_ E nm o).val σ=ah e)(hc:e.cond=ai):gU P E σ a w c o e.ws:=by
 simp only[l_,ho]at h;obtain⟨ks,h1,h⟩:=Rd.bind_some h;obtain⟨kd,h2,h⟩:=Rd.bind_some h;obtain⟨v,h3,h⟩:=Rd.bind_some h;obtain⟨ev,kv⟩:=iX dJ h3;have exec:∀{u r:bj} {w':bK},a.eval x=u->(convert src dst u).run P w= .ok r w'->(execOp a.eval o).run P w= .ok (.value r) w':=by intro u r w' hu hr;unfold execOp;rw[ho];exact iW (by rw[hu];exact hr)
 cases kd with
 |i k=>
  cases ks with
  |i k0=>
   cases v with
   |i k1 n=>refine f_ cf dJ hd h (v:= .int k (k.wrap n)) rfl (λn hn=>by simp[cJ,bN]at hn) (exec ev ?_);simp[convert,run_underlying (zp hE h1),run_underlying (zp hE h2),Conv.intToInt]
   |_=>simp at h
  |_=>simp at h
 |s=>
  have B9:=la hE h2;cases ks with
  |s=>
   cases v with
   |s s=>refine f_ cf dJ hd h (v:= .string s) ⟨rfl,ev.2⟩ (λn hn=>by simp[cJ,bN]at hn) (exec ev.1 ?_);simp[convert,run_underlying (la hE h1),run_underlying B9]
   |_=>simp at h
  |l el=>
   have DG:=kH hE h1;have gen:(∀e,v=e->((mz E e).bind λ(e,xs)=>(sI E e).bind λte=>bif bD e el&&u8s te.ks&& !te.agg then LH o (decide (xs.length<=4611686018427387904)) (.s (bytesOf xs))else .fail).val σ=ah ‹sO›)->gU P E σ a w c o (‹sO›).ws:=by
    intro h;obtain⟨⟨e1,xs⟩,q1,h⟩:=Rd.bind_some (h v rfl);obtain⟨te,q2,h⟩:=Rd.bind_some h;have q2:=dX q2;obtain⟨q3,h9⟩:=cM h;rw[nF,aL]at q3;have:=aU q3.1;subst this;obtain⟨q4,q5⟩:=ML hE q2 q3.2;have hp:plain te.ks=true:=by rw[q4];rfl
    obtain⟨r1,r2,r3⟩:=z_ cf ev q1 q2 hp;exact EX cf dJ hd h9 hc (v:= .string (bytesOf xs)) (λhb=>⟨rfl,by unfold DK;rw[gJ];exact cm hb⟩) (uk rfl) (λ_=>exec rfl (PB hE DG B9 q5 q4 r1 r2))
   cases v with
   |nl=>obtain⟨te,q1,h⟩:=Rd.bind_some h;obtain⟨q3,h⟩:=cM h;obtain⟨q4,q5⟩:=ML hE (dX q1) q3;exact f_ cf dJ hd h (v:= .string Hm) ⟨rfl,bB _⟩ (λn hn=>by simp[cJ,bN]at hn) (exec ev (run_convert_bytes_nil w src el DG q5 0 0 dst B9))
   |_=>exact gen (λ_ hv=>by cases hv;exact h)
  |_=>simp at h
 |_=>simp at h
theorem GY(hE:eC P E)(cf:Ok E σ w c)(dJ:fC E σ a w c)(hd:∀d,o.dst=ah d->d<a.tmps.size){t:aE}{x y:dx}(ho:o.op= .makeSlice t x y)(h:(l_ E nm o).val σ=ah e)(hc:e.cond=ai):gU P E σ a w c o e.ws:=by
 simp only[l_,ho]at h;obtain⟨⟨k1,n⟩,h1,h⟩:=Rd.bind_some h;obtain⟨⟨k2,m⟩,h2,h⟩:=Rd.bind_some h;obtain⟨ti,h3,h⟩:=Rd.bind_some h;have ex:=pQ dJ h1;have ey:=pQ dJ h2;have h3:=dX h3;split at h
 ·rename_i el ui AH;obtain⟨te,h4,h⟩:=Rd.bind_some h;have h4:=dX h4;obtain⟨h5,h⟩:=cM h;obtain⟨u,h6,h⟩:=Rd.bind_some h;obtain⟨hf,jm⟩:=kE h6;obtain rfl:=aJ h;generalize (bif plain te.ks then nm else nm+999)=nm at hf jm hc⊢;simp only[aL,bg,cg]at hc h5;obtain⟨⟨c0,rfl⟩,c1,c2⟩:=hc;obtain⟨xA,OP⟩:=h5;have hu:=o7 hE h3 ui AH;obtain⟨inf,hi,gi,hby,kZ,hz⟩:=hE.info el te h4;obtain⟨z,JL,DI,_⟩:=hz xA;have hr:=run_make (P:=P) w t el inf z hu hi JL k1 k2 n n c0 (Int.le_refl _) (by
   have e1:((n.toNat*te.bytes:aE):ax)<=140737488355328:=(by generalize n.toNat*te.bytes=q at c1⊢;omega)
   rw[hby,Int.mul_comm];rw[Wk,Int.toNat_of_nonneg c0]at e1;omega) (by omega)
  rw[DI,gi]at hr;refine B8 cf dJ hd (p:=⟨ak,w.heap.size,0,n.toNat,n.toNat,te.ks.length⟩) (g:=K7 E te.ks) hf jm (λc' hP hG _ _=> ?_) (λc' hP hG b hb=> ?_) (λxs hx b hb=>by cases hx) (λc' hP _=> ?_) (λn hn=> .inl (by simpa [cJ,bN]using hn)) (λb hb=>heap_alloc_old w _ b hb) (by simp) rfl rfl rfl (v:= .slice (ah ⟨w.heap.size,0,aj⟩) n.toNat n.toNat) (w':=w.alloc (.cells (madeCells (te.ks.map iJ).toArray (n.toNat*te.ks.length)) el)) ?_
  ·refine⟨⟨te,h4,by rw[hP],yq xA _⟩, ?_,λ_=>vV (λi j=>(by rw[hG];try rfl))⟩
   rw[hP,hG];refine⟨by simp[aN],λhn=>(by cases hn),λ_=>⟨_,nQ.alloc w _ el,cw _,(by show n.toNat<=2^63-1;omega),by rw[size_madeCells];simp,λi y j x hi hj=> ?_⟩⟩
   obtain⟨gz,k,hk,rfl⟩:=uD hi hj;refine⟨iJ k, ?_,by rw[bw rfl];exact N9 OP xA hk⟩
   rw[bS];exact lP gz hk
  ·rcases hb with ⟨_,rfl⟩|⟨_,i,j,_,hn,_⟩
   ·rw[hP];exact cw _
   ·rw[hG]at hn;cases hn
  ·show _=lO _;rw[hP];rfl
  ·unfold execOp;rw[ho];exact iW (by rw[ex,ey];exact hr)
 ·simp at h
end
end Go.FG

namespace Go.FG
theorem jk{xs:aQ}{i j:aE}{cs:aC CV}:(eA xs i j cs).length=xs.length:=by unfold eA;simp
theorem xT{xs:aQ}{i j:aE}{cs y:aC CV}(hy:xs[i]? =ah y)(i':aE):(eA xs i j cs)[i']? =if i'=i then ah (iD y j cs)else xs[i']? :=by
 have jm:=(aT.1 hy).1;have hd:xs.getD i []=y:=by rw[cY,hy];rfl
 unfold eA;rw[PR,hd];by_cases h:i'=i
 ·subst h;simp[jm]
 ·rw[bG h,bG (λe=>h e.symm)]
theorem nQ.uniq{w:bK}{b:aE}{v1 v2:dq bj}(h1:nQ w b v1)(h2:nQ w b v2):v1=v2:=by obtain⟨t,fr,h1,_⟩:=h1;obtain⟨t',fr',h2,_⟩:=h2;rw[h1]at h2;cases h2;rfl
theorem jg.pos{w:bK}{p:Pl}{xs:aQ}{R:aE->aE->bj->CV->Prop}(h:jg w p xs R){i:aE}(hi:i<p.n):p.nil=ak/\∃vals,nQ w p.blk vals:=by
 have jv:p.nil=false:=by
  cases hn:p.nil with
  |false=>rfl
  |true=>have:=(h.nil hn).1;subst this;have:=h.n;simp at this;omega
 obtain⟨vals,hb,_⟩:=h.mem jv;exact⟨jv,vals,hb⟩
theorem jg.ala{w:bK}{p:Pl}{xs:aQ}{R R':aE->aE->bj->CV->Prop}(h:jg w p xs R){vals:dq bj}(hbv:nQ w p.blk vals)(hs:∀y∈xs,y.length=p.sz){i j:aE}{cs:aC CV}{vs:aC bj}(hi:i<p.n)(hj:j+cs.length<=p.sz)(hl:vs.length=cs.length)
  (zm:∀(q:aE) (x:CV),cs[q]? =ah x->∃u:bj,vs[q]? =ah u/\R' i (j+q) u x)
  (hold:∀(i1:aE) (y:aC CV) (j1:aE) (x:CV) (u:bj),xs[i1]? =ah y->y[j1]? =ah x->(i1≠i\/¬(j<=j1/\j1<j+cs.length))->R i1 j1 u x->R' i1 j1 u x):
  p.off+i*p.sz+j+vs.length<=vals.size/\jg (w.setRow p.blk (ed vals (p.off+i*p.sz+j) vs)) p (eA xs i j cs) R':=by
 have jv:p.nil=false:=by
  cases hn:p.nil with
  |false=>rfl
  |true=>have:=(h.nil hn).1;subst this;have:=h.n;simp at this;omega
 obtain⟨i9,hb,Sj,W2,mD,hc⟩:=h.mem jv;obtain rfl:=hbv.uniq hb;have lZ:i<xs.length:=by rw[<-h.n];exact hi
 have hy:xs[i]? =ah xs[i]:=by simp[lZ]
 have IP:=hs xs[i] (bA lZ);have h1:(i+1)*p.sz<=p.cap*p.sz:=bZ _ (by omega);rw[dp]at h1;have ve:p.off+i*p.sz+j+vs.length<=vals.size:=by omega
 refine⟨ve,⟨by rw[jk];exact h.n,λhn=>(by rw[jv]at hn;cases hn),λ_=> ?_⟩⟩
 refine⟨_,hb.setRow (e8 ve),Sj,W2,by rw[e8 ve];exact mD,λi' y j' x j7 OR=> ?_⟩
 rw[xT hy]at j7;rw[gu ve];by_cases ID:i'=i
 ·subst ID;rw[bw rfl]at j7;cases j7;rw[pj (by omega)]at OR;by_cases hq:j<=j'/\j'<j+cs.length
  ·rw[bw hq]at OR;rw[bw (by omega)];obtain⟨u,hu,hr⟩:=zm (j'-j) x OR;refine⟨u, ?_, ?_⟩
   ·rw[<-hu];congr 1;omega
   ·rwa[show j+(j'-j)=j' by omega]at hr
  ·rw[bG hq]at OR;obtain⟨u,hu,hr⟩:=hc _ _ _ _ hy OR;exact⟨u,by rw[bG (by omega)];exact hu,hold _ _ _ _ _ hy OR (.inr hq) hr⟩
 ·rw[bG ID]at j7;obtain⟨u,hu,hr⟩:=hc _ _ _ _ j7 OR;refine⟨u, ?_,hold _ _ _ _ _ j7 OR (.inl ID) hr⟩
  have VT:j'<p.sz:=by rw[<-hs y (aR j7)];exact(aT.1 OR).1
  rw[bG ?_];exact hu;rcases PV ID with jm|hgt
  ·have:(i'+1)*p.sz<=i*p.sz:=bZ _ jm;rw[dp]at this;omega
  ·have:(i+1)*p.sz<=i'*p.sz:=bZ _ hgt;rw[dp]at this;omega
theorem jg.put{w:bK}{p:Pl}{xs:aQ}{R R':aE->aE->bj->CV->Prop}(h:jg w p xs R){vals:dq bj}(hbv:nQ w p.blk vals)(hs:∀y∈xs,y.length=p.sz){i j:aE}{cs:aC CV}{vs:aC bj}(hi:i<p.n)(hj:j+cs.length<=p.sz)(hl:vs.length=cs.length)
  (zm:∀(q:aE) (x:CV),cs[q]? =ah x->∃u:bj,vs[q]? =ah u/\R' i (j+q) u x)
  (hold:∀(i:aE) (y:aC CV) (j:aE) (x:CV) (u:bj),xs[i]? =ah y->y[j]? =ah x->R i j u x->R' i j u x):
  p.off+i*p.sz+j+vs.length<=vals.size/\jg (w.setRow p.blk (ed vals (p.off+i*p.sz+j) vs)) p (eA xs i j cs) R':=
 h.ala hbv hs hi hj hl zm (λi1 y j1 x u h1 h2 _ hr=>hold i1 y j1 x u h1 h2 hr)
theorem k_{xs:aQ}{ks:aC Ck}(h:∀y∈xs,y.map CV.kd=ks)(i j:aE):gm xs i j↔i<xs.length/\∃e,ks[j]? =ah (.l e):=by
 constructor
 ·rintro ⟨y,x,hy,hx,hl⟩;refine⟨(aT.1 hy).1, ?_⟩
  cases x with
  |l e ys=>exact⟨e,by rw[<-h y (aR hy),bJ,hx];rfl⟩
  |i=>simp[uj]at hl
  |b=>simp[uj]at hl
  |s=>simp[uj]at hl
 ·rintro ⟨hi,e,hk⟩;have hy:xs[i]? =ah xs[i]:=by simp[hi]
  have h1:=h xs[i] (bA hi);rw[<-h1,bJ]at hk;cases hx:xs[i][j]? with
  |none=>rw[hx]at hk;cases hk
  |some x=>
   rw[hx]at hk;cases x with
   |l e2 ys=>exact⟨_,_,hy,hx,rfl⟩
   |i=>cases hk
   |b=>cases hk
   |s=>cases hk
theorem O2{y cs:aC CV}{ks:aC Ck}{j:aE}(hy:y.map CV.kd=ks)(hc:cs.map CV.kd=(ks.drop j).take cs.length)(hj:j+cs.length<=ks.length):(iD y j cs).map CV.kd=ks:=by
 have hl:y.length=ks.length:=by rw[<-hy];simp
 apply VC;intro q;rw[bJ,pj (by omega)];split
 ·rename_i h;have:(cs.map CV.kd)[q-j]? =((ks.drop j).take cs.length)[q-j]? :=by rw[hc]
  rw[bJ]at this;rw[this,d_,bw (by omega),dR];congr 1;omega
 ·rw[<-hy,bJ]
theorem xV{xs:aQ}{ks:aC Ck}{i j:aE}{cs:aC CV}(h:∀y∈xs,y.map CV.kd=ks)(hc:cs.map CV.kd=(ks.drop j).take cs.length)(hj:j+cs.length<=ks.length)(hi:i<xs.length):∀y∈eA xs i j cs,y.map CV.kd=ks:=by
 intro y hy;obtain⟨q,hq⟩:=bX hy;rw[xT (y:=xs[i]) (by simp[hi])]at hq;split at hq
 ·cases hq;exact O2 (h _ (bA hi)) hc hj
 ·exact h y (aR hq)
section
variable {P:cZ} {E:fU} {σ:St} {a:Act} {w:bK} {c:eZ} {o:fA} {nm:aE} {e:sO}
theorem zh{ex:aW}{k:Ck}{x:AV}{cv:CV}{ws:aC (aE×eO)}{u:bj}(hp:plain [k]=ai)(h:(Ik ex k x).val σ=ah (cv,ws))(hx:eG E w c x u):cv.kd=k/\Sc u cv/\uj cv=ak/\ws=[]:=by
 cases k with
 |i k=>
  cases x with
  |i k' n=>
   replace h:(if k=k' then Rd.ret (CV.i k n,[])else .fail:Rd (CV×aC (aE×eO))).val σ=ah (cv,ws):=h;split at h
   ·rename_i hk;subst hk;obtain⟨rfl,rfl⟩:=bT (aJ h);exact⟨rfl,⟨hx,trivial⟩,rfl,rfl⟩
   ·simp at h
  |_=>simp[Ik]at h
 |b=>
  cases x with
  |b n=>obtain⟨rfl,rfl⟩:=bT (aJ h);exact⟨rfl,⟨hx,trivial⟩,rfl,rfl⟩
  |_=>simp[Ik]at h
 |s=>
  cases x with
  |s n=>obtain⟨rfl,rfl⟩:=bT (aJ h);exact⟨rfl,hx,rfl,rfl⟩
  |_=>simp[Ik]at h
 |l=>simp[plain]at hp
 |o=>simp[plain]at hp
theorem BW{ex:aW}:∀{ks:aC Ck} {xs:aC AV} {cs:aC CV} {ws:aC (aE×eO)} (hp:plain ks=ai) (h:(zi ex ks xs).val σ=ah (cs,ws)),cs.map CV.kd=ks/\cs.length=xs.length/\ws=[]/\
  ∀(vals:dq bj),gb E w c vals xs->∀(q:aE) (x:CV),cs[q]? =ah x->vals[q]? =ah (PF x)/\uj x=ak/\okC x:=by
 intro ks;induction ks with
 |nil=>
  intro xs cs ws hp h;cases xs with
  |nil=>obtain⟨rfl,rfl⟩:=bT (aJ h);exact⟨rfl,rfl,rfl,λ_ _ q x hq=>by simp at hq⟩
  |cons=>simp[zi]at h
 |cons k ks ih=>
  intro xs cs ws hp h;cases xs with
  |nil=>simp[zi]at h
  |cons x xs=>
   obtain⟨⟨cv,w1⟩,h1,h⟩:=Rd.bind_some h;obtain⟨⟨cr,w2⟩,h2,h⟩:=Rd.bind_some h;obtain⟨rfl,rfl⟩:=bT (aJ h);simp only[plain,uI,aL]at hp;have OY:plain [k]=true:=by simp[plain,hp.1]
   have hp2:plain ks=true:=hp.2;obtain⟨i1,i2,i3,i4⟩:=ih hp2 h2;have e1:=λu (hu:eG E w c x u)=>zh OY h1 hu;have kd1:cv.kd=k/\w1=[]:=by
    cases k<;>cases x<;>simp[Ik,plain]at h1 OY<;>first
     |(obtain⟨rfl,rfl⟩:=h1;exact⟨rfl,rfl⟩)
     |(split at h1<;>simp at h1;rename_i hk;subst hk;obtain⟨rfl,rfl⟩:=h1;exact⟨rfl,rfl⟩)
   refine⟨by simp[kd1.1,i1],by simp[i2],by rw[kd1.2,i3];rfl,λvals hv q y hq=> ?_⟩
   cases q with
   |zero=>cases hq;obtain⟨u,hu,ha⟩:=hv.2 0 x rfl;obtain⟨_,⟨rfl,ho⟩,hl,_⟩:=e1 u ha;exact⟨hu,hl,ho⟩
   |succ q=>
    have M_:gb E w c (vals.extract 1 vals.size) xs:=by
     refine⟨by simp;have:=hv.1;simp at this;omega,λj b hj=> ?_⟩
     obtain⟨u,hu,hb⟩:=hv.2 (j+1) b hj;refine⟨u, ?_,hb⟩
     have:=(dV.1 hu).1;rw[ea,bw (by omega),iZ];exact hu
    obtain⟨r1,r2⟩:=i4 _ M_ q y hq;refine⟨?_,r2⟩
    rw[ea]at r1;split at r1
    ·rw[iZ];exact r1
    ·cases r1
theorem Zk{s:Sem Unit}{w':bK}(hr:s.run P w= .ok () w'):(do s;pure Next.skip:Sem Next).run P w= .ok .skip w':=by simp only[ch,hr,bF,cS]
theorem EK:∀{ys:aC AV} {q0 q n2:aE},zu q0 ys=ah (q,n2)->q0<=q/\ys[q-q0]? =ah (.own n2)/\∀(k m:aE),ys[k]? =ah (.own m)->k=q-q0:=by
 have YF:∀{ys:aC AV},I_ ys=ai->∀(k m:aE),ys[k]? ≠ah (.own m):=by
  intro ys;induction ys with
  |nil=>intro h k m h;simp at h
  |cons y ys ih=>
   intro h k m hk;cases y with
   |own n=>cases h
   |_=>
    cases k with
    |zero=>cases hk
    |succ k=>exact ih (by simpa [I_]using h) k m hk
 intro ys;induction ys with
 |nil=>intro q0 q n2 h;cases h
 |cons y ys ih=>
  intro q0 q n2 h;have step:zu (q0+1) ys=ah (q,n2)->(∀m,y≠ .own m)->q0<=q/\(y::ys)[q-q0]? =ah (.own n2)/\∀(k m:aE),(y::ys)[k]? =ah (.own m)->k=q-q0:=by
   intro h hy;obtain⟨h1,h2,h3⟩:=ih h;have e:q-q0=(q-(q0+1))+1:=by omega
   refine⟨by omega,by rw[e,dO];exact h2,λk m hk=> ?_⟩
   cases k with
   |zero=>cases hk;exact cO rfl (hy m)
   |succ k=>have:=h3 k m hk;omega
  cases y with
  |own n=>
   unfold zu at h;cases h1:I_ ys with
   |false=>rw[h1]at h;cases h
   |true=>
    rw[h1]at h;cases h;refine⟨cw _,by rw[Nat.sub_self];rfl,λk m hk=> ?_⟩
    cases k with
    |zero=>omega
    |succ k=>exact cO hk (YF h1 k m)
  |_=>exact step (by simpa [zu]using h) (λm h=>by cases h)
theorem WJ{E:fU}{w:bK}{c:eZ}{e2 n2:aE}{zs:aQ}:∀{ks:aC Ck} {ys:aC AV} {cs:aC CV},Dy e2 n2 zs ks ys=ah cs->cs.map CV.kd=ks/\cs.length=ys.length/\
  ∀(q:aE) (x:CV),cs[q]? =ah x->∃y,ys[q]? =ah y/\((uj x=ak/\∀u,eG E w c y u->Sc u x)\/(x= .l e2 zs/\y= .own n2)):=by
 intro ks;induction ks with
 |nil=>
  intro ys cs h;cases ys with
  |nil=>cases h;exact⟨rfl,rfl,λq x h=>by simp at h⟩
  |cons=>cases h
 |cons k ks ih=>
  intro ys cs h
  have go:∀{y:AV} {r:aC AV} {x:CV},ys=y::r->(Dy e2 n2 zs ks r).map (x:: ·)=ah cs->x.kd=k->((uj x=ak/\∀u,eG E w c y u->Sc u x)\/(x= .l e2 zs/\y= .own n2))->
    cs.map CV.kd=k::ks/\cs.length=ys.length/\∀(q:aE) (x:CV),cs[q]? =ah x->∃y,ys[q]? =ah y/\((uj x=ak/\∀u,eG E w c y u->Sc u x)\/(x= .l e2 zs/\y= .own n2)):=by
   intro y r x hy hm hk hx
   subst hy
   cases hr:Dy e2 n2 zs ks r with
   |none=>rw[hr]at hm;cases hm
   |some cr=>
    rw[hr]at hm;cases hm;obtain⟨i1,i2,i3⟩:=ih hr;refine⟨by simp[hk,i1],by simp[i2],λq z hq=> ?_⟩
    cases q with
    |zero=>cases hq;exact⟨y,rfl,hx⟩
    |succ q=>exact i3 q z hq
  cases ys with
  |nil=>cases k<;>cases h
  |cons y r=>
   cases k with
   |i k=>
    cases y with
    |i k' n=>
     unfold Dy at h;split at h
     ·rename_i hk;subst hk;exact go rfl h rfl (.inl ⟨rfl,λu hu=>⟨hu,trivial⟩⟩)
     ·cases h
    |_=>cases h
   |b=>
    cases y with
    |b n=>exact go rfl h rfl (.inl ⟨rfl,λu hu=>⟨hu,trivial⟩⟩)
    |_=>cases h
   |s=>
    cases y with
    |s n=>exact go rfl h rfl (.inl ⟨rfl,λu hu=>hu⟩)
    |_=>cases h
   |l e=>
    cases y with
    |own n=>
     unfold Dy at h;cases hb:(bD e e2&&bD n n2)with
     |false=>rw[hb]at h;cases h
     |true=>rw[hb,au]at h;simp only[aL]at hb;have:=aU hb.1;subst this;have:=aU hb.2;subst this;exact go rfl h rfl (.inr ⟨rfl,rfl⟩)
    |_=>cases h
   |o=>cases y<;>cases h
theorem OI(cf:Ok E σ w c)(dJ:fC E σ a w c)(hd:∀d,o.dst=ah d->d<a.tmps.size){n i j:aE}{ys:aC AV}{ws:aC (aE×eO)}{X:dq bj}(hF:zo n=ai)(hi:i<(c.P n).n)(h:(Hc E n i j ys).val σ=ah ws)(pw:gb E w c X ys)(kZ:0<ys.length)
  (exec:∀(cur:dq bj),nQ w (c.P n).blk cur->(c.P n).off+i*(c.P n).sz+j+X.size<=cur.size->(execOp a.eval o).run P w= .ok .skip (w.setRow (c.P n).blk (ed cur ((c.P n).off+i*(c.P n).sz+j) X.toList))):gU P E σ a w c o (ws++dw o .un):=by
 unfold Hc at h;obtain⟨ob,hg0,h⟩:=Rd.bind_some h;have hg:=dy hg0;split at h
 ·rename_i el xs;obtain⟨te,h6,h⟩:=Rd.bind_some h;have h6:=dX h6;split at h
  ·rename_i q n2 xB;cases hb0:bD n n2 with
   |true=>rw[hb0]at h;simp at h
   |false=>
    rw[hb0,ay]at h;have iw:n≠n2:=λe=>by subst e;rw[Nat.beq_refl]at hb0;cases hb0
    obtain⟨ob2,arC,h⟩:=Rd.bind_some h;have hg2:=dy arC;split at h
    ·rename_i e2 zs;obtain⟨t2,h7,h⟩:=Rd.bind_some h;have h7:=dX h7;obtain⟨h8,h⟩:=cM h;simp only[aL]at h8;obtain⟨sL,hle⟩:=h8;have hle:=cG hle;split at h
     ·rename_i cs Hz;obtain rfl:=aJ h;obtain⟨m1,m2,m3⟩:=WJ (E:=E) (w:=w) (c:=c) Hz;obtain⟨_,_,hu⟩:=EK xB;rw[rX]at hu;obtain⟨⟨t1,q1,gi,mG⟩,gh,gz⟩:=cf.obj n _ hg;obtain rfl:te=t1:=aJ (h6.symm.trans q1);obtain⟨⟨t3,q3,KS,DF⟩,oF,_⟩:=cf.obj n2 _ hg2;obtain rfl:t2=t3:=aJ (h7.symm.trans q3);have jW:j+cs.length<=te.ks.length:=by rw[m2];exact hle
      have hkd:cs.map CV.kd=(te.ks.drop j).take cs.length:=by rw[m1,m2]
      have lZ:i<xs.length:=by rw[<-gh.n];exact hi
      obtain⟨jv,vals,hb⟩:=gh.pos hi;have IE:=k_ mG;have sD:=xV mG hkd jW lZ;have B_:=k_ sD;have same:∀i' j',gm (eA xs i j cs) i' j'->gm xs i' j':=λi' j' hx=>(IE i' j').2 (by have:=(B_ i' j').1 hx;rwa[jk]at this);have IP:∀y∈xs,y.length=(c.P n).sz:=λy hy=>by rw[gi,<-mG y hy];simp
      let w':=w.setRow (c.P n).blk (ed vals ((c.P n).off+i*(c.P n).sz+j) X.toList);have rD:∀b,b≠(c.P n).blk->w'.heap[b]? =w.heap[b]? :=λb hb=>setRow_other w _ b _ hb;have auI:∀i j,¬gm zs i j:=by rintro i j ⟨y,x,h1,h2,h3⟩;rw[iq sL (DF y (aR h1)) h2]at h3;cases h3
      have YQ:(c.P n2).nil=ak->fN c n2 (.row e2 ai zs) (c.P n2).blk:=λhn=> .inl ⟨hn,rfl⟩;have Li:fN c n (.row el ai xs) (c.P n).blk:= .inl ⟨jv,rfl⟩;have ajr:(c.P n2).nil=ak->(c.P n2).blk≠(c.P n).blk:=λhn he=>iw (cf.sep n _ n2 _ _ hg hg2 Li (by rw[<-he];exact YQ hn));let c':eZ:=⟨c.P,λm i' j'=>if m=n/\i'=i/\j'=j+q then c.P n2 else c.G m i' j',c.K⟩
      have hG1:c'.G n i (j+q)=c.P n2:=bw ⟨rfl,rfl,rfl⟩;have hG2:∀i' j',¬(i'=i/\j'=j+q)->c'.G n i' j'=c.G n i' j':=λi' j' h=>bG (λe=>h ⟨e.2.1,e.2.2⟩);have hG3:∀m,m≠n->c'.G m=c.G m:=λm hm=>by funext i' j';exact bG (λe=>hm e.1)
      have Xl:∀i' j',gm (eA xs i j cs) i' j'->(c'.G n i' j').nil=ak->(i'=i/\j'=j+q/\(c.P n2).nil=ak/\(c'.G n i' j').blk=(c.P n2).blk)\/(¬(i'=i/\j'=j+q)/\(c.G n i' j').nil=ak/\(c'.G n i' j').blk=(c.G n i' j').blk/\fN c n (.row el ai xs) (c.G n i' j').blk):=by
       intro i' j' hh hn;by_cases he:i'=i/\j'=j+q
       ·obtain⟨rfl,rfl⟩:=he;rw[hG1]at hn⊢;exact .inl ⟨rfl,rfl,hn,rfl⟩
       ·rw[hG2 i' j' he]at hn⊢;exact .inr ⟨he,hn,rfl, .inr ⟨rfl,i',j',same i' j' hh,hn,rfl⟩⟩
      obtain⟨mD,AF⟩:=jg.ala (R':=λi1 j1 u1 x1=>if ai=ai then XC E w' (c'.G n) i1 j1 u1 x1 else da E w' c'.K u1 x1) gh hb IP (i:=i) (j:=j) (cs:=cs) (vs:=X.toList) hi (by rw[gi];exact jW) (by rw[dS,pw.1,m2])
       (λk x hk=>by
        obtain⟨y,hy,hxy⟩:=m3 k x hk;obtain⟨u,hu1,hu2⟩:=pw.2 k y hy;refine⟨u,by rw[cW];exact hu1, ?_⟩
        rw[bw rfl];rcases hxy with ⟨hl,hsc⟩|⟨rfl,rfl⟩
        ·exact uz hl (hsc u hu2)
        ·have vT:k=q:=hu k n2 hy;subst vT;have hu2:u=lO (c.P n2):=hu2;refine⟨by rw[hG1];exact hu2,t2,h7,sL,by rw[hG1];exact KS,DF, ?_⟩
         rw[hG1];exact oF.frame (λhn=>rD _ (ajr hn)) (λi1 j1 y1 x1 u1 g1 g2 hr=>by rw[bw rfl]at hr;exact uB hr (iq sL (DF y1 (aR g1)) g2)))
       (λi1 y1 j1 x1 u1 h1 h2 ar6 hr=>by
        rw[bw rfl]at hr⊢;have DE:XC E w' (c.G n) i1 j1 u1 x1:=hr.frame (λhl hn=>rD _ ((gz rfl).out i1 j1 ⟨y1,x1,h1,h2,hl⟩ hn jv));have arT:¬(i1=i/\j1=j+q):=by
         rintro ⟨rfl,rfl⟩;have hq:q<cs.length:=by obtain⟨_,hq,_⟩:=EK xB;rw[rX]at hq;rw[m2];exact(aT.1 hq).1
         rcases ar6 with h|h
         ·exact h rfl
         ·exact h ⟨by omega,by omega⟩
        cases x1 with
        |l ee zz=>obtain⟨r1,r2⟩:=DE;unfold XC;rw[hG2 i1 j1 arT];exact⟨r1,r2⟩
        |i=>exact DE
        |b=>exact DE
        |s=>exact DE)
      have hr:=exec vals hb (by rw[dS]at mD;exact mD);let σ1:=pG (pG σ (c_ n) (.o (.row el ai (eA xs i j cs)))) (c_ n2) (.o .dead);obtain⟨s1,s2,s3⟩:=rP σ1 o .un;have key:∀m,wr σ1 (dw o .un) (c_ m)=if m=n2 then .o .dead else if m=n then .o (.row el ai (eA xs i j cs))else σ (c_ m):=λm=>by rw[s3];show(pG (pG σ (c_ n) (.o (.row el ai (eA xs i j cs)))) (c_ n2) (.o .dead)) (c_ m)=_;rw[pU,pU]
      have aiK:∀m,σ (c_ m)≠ .jX->wr σ1 (dw o .un) (c_ m)≠ .jX:=λm hm=>by rw[key];split;simp;split;simp;exact hm
      have hA:qN σ c c':=λm _=>⟨rfl,λhf=>hG3 m (λe=>by subst e;rw[hF]at hf;cases hf)⟩
      have hCh:∀m,m=n\/m=n2->∃ob,σ (c_ m)= .o ob:=by rintro m (rfl|rfl);exact⟨_,hg⟩;exact⟨_,hg2⟩
      have gP:∀m x,(m=n\/m=n2)->wr σ1 (dw o .un) (c_ m)= .o x->(m=n2/\x= .dead)\/(m=n/\x= .row el ai (eA xs i j cs)):=by
       intro m x hm hx;rw[key]at hx;by_cases WI:m=n2
       ·rw[bw WI]at hx;cases hx;exact .inl ⟨WI,rfl⟩
       ·rw[bG WI,bw (hm.resolve_right WI)]at hx;cases hx;exact .inr ⟨hm.resolve_right WI,rfl⟩
      have hh:=cf.wP (σ':=wr σ1 (dw o .un)) (w':=w') (c':=c') (λm=>m=n\/m=n2) (λm hm=>by rw[key,bG (λe=>hm (.inr e)),bG (λe=>hm (.inl e))]) aiK hA (λm hm _=>hG3 m (λe=>hm (.inl e)))
       (λb _ W6=>rD b (λe=>W6 ⟨n,_, .inl rfl,hg,by rw[e];exact Li⟩)) (by simp[w',lC]) (λ_ h=>h) (λ_ h=> .inl h) (λb hb=>jt (cf.lt b hb) (by simp[w',lC]))
       (λm x hm hx=>by
        rcases gP m x hm hx with ⟨rfl,rfl⟩|⟨rfl,rfl⟩
        ·trivial
        ·refine⟨⟨te,q1,gi,sD⟩,AF,λ_=>⟨λi1 j1 hh hn _ he=> ?_,λi1 j1 i2 j2 h1 h2 n1 n2' he=> ?_⟩⟩
         ·rcases Xl i1 j1 hh hn with ⟨_,_,g1,g2⟩|⟨_,g1,g2,g3⟩
          ·exact ajr g1 (g2.symm.trans he)
          ·exact(gz rfl).out i1 j1 (same i1 j1 hh) g1 jv (g2.symm.trans he)
         ·rcases Xl i1 j1 h1 n1 with ⟨a1,a2,a3,a4⟩|⟨a1,a2,a3,a4⟩<;>rcases Xl i2 j2 h2 n2' with ⟨b1,b2,b3,b4⟩|⟨b1,b2,b3,b4⟩
          ·exact⟨a1.trans b1.symm,a2.trans b2.symm⟩
          ·exfalso;exact iw (cf.sep m _ n2 _ _ hg hg2 b4 (by rw[<-b3,<-he,a4];exact YQ a3))
          ·exfalso;exact iw (cf.sep m _ n2 _ _ hg hg2 a4 (by rw[<-a3,he,b4];exact YQ b3))
          ·exact(gz rfl).one i1 j1 i2 j2 (same i1 j1 h1) (same i2 j2 h2) a2 b2 (a3.symm.trans (he.trans b3)))
       (λm x b hm hx hf=>by
        rcases gP m x hm hx with ⟨rfl,rfl⟩|⟨rfl,rfl⟩
        ·exact hf.elim
        ·have aiB:jZ (λk=>k=m\/k=n2) σ c b:=by
          rcases hf with ⟨_,rfl⟩|⟨_,i1,j1,hh,hn,rfl⟩
          ·exact⟨m,_, .inl rfl,hg,Li⟩
          ·rcases Xl i1 j1 hh hn with ⟨_,_,g1,g2⟩|⟨_,g1,g2,g3⟩
           ·rw[g2];exact⟨n2,_, .inr rfl,hg2,YQ g1⟩
           ·rw[g2];exact⟨m,_, .inl rfl,hg,g3⟩
         exact⟨.inl aiB,cf.Ja aiB.own⟩)
       (λm x m' x' b hm w_ hx py hf vd=>by
        rcases gP m x hm hx with ⟨rfl,rfl⟩|⟨rfl,rfl⟩
        ·exact hf.elim
        ·rcases gP m' x' w_ py with ⟨rfl,rfl⟩|⟨rfl,rfl⟩
         ·exact vd.elim
         ·rfl)
       (λm bs hm hx=>by rcases gP m _ hm hx with ⟨_,h⟩|⟨_,h⟩<;>cases h) rfl rfl rfl
      intro K Q hK;refine CY hr (hK undef w' c' hh.1 ?_ hh.2 hA);refine dJ.wP cf hh.2 hA aiK o undef (λk hk=>by rw[s1 k hk];show slot (pG (pG σ (c_ n) (.o (.row el ai (eA xs i j cs)))) (c_ n2) (.o .dead)) k=_;rw[jl,jl]) (λd ho=>⟨hd d ho, ?_, ?_⟩)
      ·rw[s2 d ho];trivial
      ·rw[s2 d ho];intro k hk;simp[cJ]at hk
     ·simp at h
    ·simp at h
  ·simp at h
 ·simp at h
theorem T0(hE:eC P E)(cf:Ok E σ w c)(dJ:fC E σ a w c)(hd:∀d,o.dst=ah d->d<a.tmps.size){t:aE}{p x:dx}(ho:o.op= .store t p x)(h:(l_ E nm o).val σ=ah e):gU P E σ a w c o e.ws:=by
 simp only[l_,ho]at h;obtain⟨ti,h1,h⟩:=Rd.bind_some h;obtain⟨pv,h2,h⟩:=Rd.bind_some h;obtain⟨xv,h3,h⟩:=Rd.bind_some h;have h1:=dX h1;obtain⟨ep,kp⟩:=iX dJ h2;obtain⟨ex,kx⟩:=mm dJ h3;cases xv with
 |v g ys=>
  obtain⟨h4,h⟩:=cM h;have h4:=aU h4;obtain⟨ws,h5,h⟩:=Rd.bind_some h;obtain rfl:=aJ h;have pw:=qa.cells ex;have Hz:(a.eval x).cells.size=ti.ks.length:=by rw[pw.1,h4]
  have ky:∀b∈ys,jf σ b:=λb hb n hn=>kx n (bL.2 ⟨b,hb,hn⟩);obtain⟨_,_,_,_,kZ,_⟩:=hE.info t ti h1;have exec:∀{b of:aE} {cur:dq bj},a.eval p= .pointer (ah (ad b of))->nQ w b cur->of+(a.eval x).cells.size<=cur.size->(execOp a.eval o).run P w= .ok .skip (w.setRow b (ed cur of (a.eval x).cells.toList)):=by intro b of cur hp hb hf;unfold execOp;rw[ho];refine Zk ?_;rw[hp];exact Js w hE h1 Hz hb hf pw.one
  have hkK:∀(b:aE) (new:dq bj),wy σ c b->∀b',c.K b'->(w.setRow b new).heap[b']? =w.heap[b']? :=by intro b new hb b' hk;exact setRow_other w b b' new (λe=>by subst e;exact cf.Ja hb hk)
  have h5:(Hd E pv ys).val σ=ah ws\/∃n i j,pv= .rp n i j/\zo n=ai/\(Hc E n i j ys).val σ=ah ws:=by
   cases pv with
   |rp n i j=>
    unfold Vd at h5;simp only at h5;cases hF:zo n with
    |true=>rw[hF,au]at h5;exact .inr ⟨n,i,j,rfl,hF,h5⟩
    |false=>rw[hF,ay]at h5;exact .inl h5
   |_=>exact .inl h5
  rcases h5 with h5|⟨n,i,j,rfl,hF,h5⟩
  rotate_left
  ·obtain⟨hpi,hpv⟩:=ep;exact OI cf dJ hd hF hpi h5 pw (by rw[<-h4]at kZ;exact kZ) (λcur hb hf=>exec hpv hb hf)
  cases pv with
  |bp n j=>
   obtain⟨ob,hg,h5⟩:=Rd.bind_some h5;have hg:=dy hg;cases ob with
   |box xs=>
    obtain⟨h6,h5⟩:=cM h5;have h6:=cG h6;obtain rfl:=aJ h5;obtain⟨cur,hb,gi,hcv⟩:=cf.obj n _ hg;have vU:wy σ c (c.P n).blk:=⟨n,_,hg,rfl⟩
    have mD:j+(a.eval x).cells.size<=cur.size:=by rw[pw.1,gi];exact h6
    have aiw:j+(a.eval x).cells.toList.length<=cur.size:=by rw[dS];exact mD
    have C6:=hkK (c.P n).blk (ed cur j (a.eval x).cells.toList) vU;refine tl cf dJ hd hg (ob':= .box (iD xs j ys)) ?_ (λb hb=>hb) (λzs hz b hb=> ?_) (s:= .un) trivial (λn hn=>by simp[cJ]at hn) (λb hb P4=>setRow_other w _ b _ (λe=>P4 e)) (by simp[lC]) rfl rfl rfl (.inr ⟨exec ep hb mD,rfl⟩)
    ·have:=(gb.put (E:=E) (w:=w) (c:=c) ⟨gi,hcv⟩ pw h6)
     refine⟨_,hb.setRow (e8 aiw),this.1,λq b hq=> ?_⟩
     obtain⟨u,hu,hub⟩:=this.2 q b hq;exact⟨u,hu,hub.frame C6 (λ_ h=>h) (λ_ _=>⟨rfl,rfl⟩)⟩
    ·cases hz;rcases Cg hb with hb|hb
     ·exact cf.kn n xs hg b hb
     ·exact ky b hb
   |_=>simp at h5
  |rp n i j=>
   obtain⟨ob,hg,h5⟩:=Rd.bind_some h5;have hg:=dy hg;cases ob with
   |row el AE xs=>
    obtain⟨te,h6,h5⟩:=Rd.bind_some h5;have h6:=dX h6;obtain⟨h7,h5⟩:=cM h5;obtain⟨⟨cs,w2⟩,h8,h5⟩:=Rd.bind_some h5;obtain rfl:=aJ h5;obtain⟨m1,m2,_,m3⟩:=BW (E:=E) (w:=w) (c:=c) h7 h8;obtain⟨⟨t2,q1,gi,mG⟩,gh,gz⟩:=cf.obj n _ hg;obtain rfl:te=t2:=aJ (h6.symm.trans q1);obtain⟨hi,hpv⟩:=ep;have hlk:cs.length=((te.ks.drop j).take ys.length).length:=by rw[<-m1];simp
    have jW:j+cs.length<=te.ks.length:=by
     rw[eJ,iA]at hlk;have:0<cs.length:=by rw[m2,h4];exact kZ
     omega
    have hkd:cs.map CV.kd=(te.ks.drop j).take cs.length:=by rw[m1,m2]
    have lZ:i<xs.length:=by rw[<-gh.n];exact hi
    have jv:(c.P n).nil=false:=by
     cases hn:(c.P n).nil with
     |false=>rfl
     |true=>have:=(gh.nil hn).1;subst this;simp at lZ
    have vU:wy σ c (c.P n).blk:=⟨n,_,hg, .inl ⟨jv,rfl⟩⟩
    have C6:=λnew=>hkK (c.P n).blk new vU;have IE:=k_ mG;have sD:=xV mG hkd jW lZ;have B_:=k_ sD;have same:∀i' j',gm (eA xs i j cs) i' j'->gm xs i' j':=λi' j' hx=>(IE i' j').2 (by have:=(B_ i' j').1 hx;rwa[jk]at this);obtain⟨_,vals,hb⟩:=gh.pos hi;have IP:∀y∈xs,y.length=(c.P n).sz:=λy hy=>by rw[gi,<-mG y hy];simp
    have arA:=C6 (ed vals ((c.P n).off+i*(c.P n).sz+j) (a.eval x).cells.toList);have hw:∀b,c.K b->(w.setRow (c.P n).blk (ed vals ((c.P n).off+i*(c.P n).sz+j) (a.eval x).cells.toList)).heap[b]? =w.heap[b]? :=arA;generalize M7:w.setRow (c.P n).blk (ed vals ((c.P n).off+i*(c.P n).sz+j) (a.eval x).cells.toList)=w' at hw;have rD:∀b,b≠(c.P n).blk->w'.heap[b]? =w.heap[b]? :=λb hb=>by rw[<-M7];exact setRow_other w _ b _ hb
    obtain⟨mD,AF⟩:=jg.put (R':=λi1 j1 u1 x1=>if AE=ai then XC E w' (c.G n) i1 j1 u1 x1 else da E w' c.K u1 x1) gh hb IP (i:=i) (j:=j) (cs:=cs) (vs:=(a.eval x).cells.toList) hi (by rw[gi];exact jW) (by rw[dS,pw.1,m2])
     (λq y hq=>by
      obtain⟨r1,r2,r3⟩:=m3 _ pw q y hq;refine⟨PF y,by rw[cW];exact r1, ?_⟩
      split
      ·exact uz r2 ⟨rfl,r3⟩
      ·exact kM r2 ⟨rfl,r3⟩)
     (λi1 y1 j1 x1 u1 h1 h2 hr=>by
      cases AE with
      |true=>rw[bw rfl]at hr⊢;exact hr.frame (λhl hn=>rD _ ((gz rfl).out i1 j1 ⟨y1,x1,h1,h2,hl⟩ hn jv))
      |false=>rw[bG (by simp)]at hr⊢;exact hr.frame hw (λ_ h=>h))
    rw[M7]at AF;refine tl cf dJ hd hg (ob':= .row el AE (eA xs i j cs)) ?_ ?_ (λzs hz=>by cases hz) (s:= .un) trivial (λn hn=>by simp[cJ]at hn) (w':=w') (λb hb P4=>rD b (λe=>P4 (.inl ⟨jv,e⟩))) (by rw[<-M7];simp[lC]) (by rw[<-M7];rfl) (by rw[<-M7];rfl) (by rw[<-M7];rfl) (.inr ⟨?_,rfl⟩)
    ·exact⟨⟨te,q1,gi,sD⟩,AF,λhx=>⟨λi1 j1 hh=>(gz hx).out i1 j1 (same i1 j1 hh),λi1 j1 i2 j2 h1 h2=>(gz hx).one i1 j1 i2 j2 (same i1 j1 h1) (same i2 j2 h2)⟩⟩
    ·rintro b (hb|⟨hx,i1,j1,hh,hn⟩)
     ·exact .inl hb
     ·exact .inr ⟨hx,i1,j1,same i1 j1 hh,hn⟩
    ·rw[<-M7];refine exec hpv hb ?_;rw[dS]at mD;exact mD
   |_=>simp at h5
  |ip n i j i2 j2=>
   obtain⟨ob,hg,h5⟩:=Rd.bind_some h5;have hg:=dy hg;cases ob with
   |row el AE xs=>
    cases AE with
    |false=>simp at h5
    |true=>
    obtain⟨te,h6,h5⟩:=Rd.bind_some h5;have h6:=dX h6;split at h5
    ·rename_i e2 zW;obtain⟨t2,h7,h5⟩:=Rd.bind_some h5;have h7:=dX h7;obtain⟨h8,h5⟩:=cM h5;obtain⟨⟨cs,w2⟩,h9,h5⟩:=Rd.bind_some h5;obtain rfl:=aJ h5;have aiQ:plain ((t2.ks.drop j2).take ys.length)=true:=bu.2 (λk hk=>bu.1 h8 k (kU (kV hk)));obtain⟨m1,m2,_,m3⟩:=BW (E:=E) (w:=w) (c:=c) aiQ h9;obtain⟨⟨hi,GF,hpv⟩,_⟩:=ep;obtain⟨⟨t1,q1,gi,mG⟩,gh,gz⟩:=cf.obj n _ hg;obtain rfl:te=t1:=aJ (h6.symm.trans q1);obtain⟨zs,y,t3,r1,r2,r3,r4,r5,r6,r7,_⟩:=Be cf hg h6 zW hi;obtain rfl:t2=t3:=aJ (h7.symm.trans r3);rw[fD r1 r2];simp only[iR];have hlk:cs.length=((t2.ks.drop j2).take ys.length).length:=by rw[<-m1];simp
     have jW:j2+cs.length<=t2.ks.length:=by
      rw[eJ,iA]at hlk;have:0<cs.length:=by rw[m2,h4];exact kZ
      omega
     have hkd:cs.map CV.kd=(t2.ks.drop j2).take cs.length:=by rw[m1,m2]
     have arF:i2<zs.length:=by rw[<-r7.n];exact GF
     have lZ:i<xs.length:=(aT.1 r1).1;obtain⟨Cb,vals,hb⟩:=r7.pos GF;obtain⟨jv,pv,hpb⟩:=gh.pos hi;have DC:gm xs i j:=⟨y,_,r1,r2,rfl⟩
     have vU:wy σ c (c.G n i j).blk:=⟨n,_,hg, .inr ⟨rfl,i,j,DC,Cb,rfl⟩⟩
     have hw:=hkK (c.G n i j).blk (ed vals ((c.G n i j).off+i2*(c.G n i j).sz+j2) (a.eval x).cells.toList) vU;have KU:∀y∈zs,y.length=(c.G n i j).sz:=λy hy=>by rw[r5,<-r6 y hy];simp
     obtain⟨mD,AF⟩:=jg.put (R':=λ_ _ u1 x1=>Sc u1 x1) r7 hb KU (i:=i2) (j:=j2) (cs:=cs) (vs:=(a.eval x).cells.toList) GF (by rw[r5];exact jW) (by rw[dS,pw.1,m2])
      (λq y hq=>⟨PF y,by rw[cW];exact(m3 _ pw q y hq).1,rfl,(m3 _ pw q y hq).2.2⟩) (λ_ _ _ _ _ _ _ hr=>hr)
     generalize M7:w.setRow (c.G n i j).blk (ed vals ((c.G n i j).off+i2*(c.G n i j).sz+j2) (a.eval x).cells.toList)=w' at hw AF;have rD:∀b,b≠(c.G n i j).blk->w'.heap[b]? =w.heap[b]? :=λb hb=>by rw[<-M7];exact setRow_other w _ b _ hb
     have hjk:j<te.ks.length:=(aT.1 zW).1;have aex:[CV.l e2 (eA zs i2 j2 cs)].map CV.kd=(te.ks.drop j).take [CV.l e2 (eA zs i2 j2 cs)].length:=by rw[bz,List.take_one,List.head?_drop,zW];rfl
     have sD:=xV (i:=i) (j:=j) (cs:=[CV.l e2 (eA zs i2 j2 cs)]) mG aex (by simp;omega) lZ;have IE:=k_ mG;have B_:=k_ sD;have same:∀i' j',gm (eA xs i j [CV.l e2 (eA zs i2 j2 cs)]) i' j'->gm xs i' j':=λi' j' hx=>(IE i' j').2 (by have:=(B_ i' j').1 hx;rwa[jk]at this);have aeF:(c.P n).blk≠(c.G n i j).blk:=λe=>(gz rfl).out i j DC Cb jv e.symm;have oF:jg w' (c.P n) (eA xs i j [CV.l e2 (eA zs i2 j2 cs)]) (λi1 j1 u1 x1=>if ai=ai then XC E w' (c.G n) i1 j1 u1 x1 else da E w' c.K u1 x1):=by
      obtain⟨vs,k1,k2,k3,k4,k5⟩:=gh.mem jv;refine⟨by rw[jk];exact gh.n,λhn=>(by rw[jv]at hn;cases hn),λ_=>⟨vs,k1.frame (rD _ aeF),k2,k3,k4,λi1 y1 j1 x1 g1 g2=> ?_⟩⟩
      rw[xT r1]at g1;simp only[if_true]at k5⊢;by_cases ID:i1=i
      ·subst ID;rw[bw rfl]at g1;cases g1;have IP:y.length=te.ks.length:=by rw[<-mG y (aR r1)];simp
       rw[pj (by simp;omega)]at g2;by_cases hq:j<=j1/\j1<j+[CV.l e2 (eA zs i2 j2 cs)].length
       ·rw[bw hq]at g2;have:j1=j:=by simp at hq;omega
        subst this;simp at g2;subst g2;obtain⟨u,hu,hr⟩:=k5 _ _ _ _ r1 r2;refine⟨u,hu,hr.1,t2,r3,r4,r5,xV r6 hkd jW arF,AF⟩
       ·rw[bG hq]at g2;obtain⟨u,hu,hr⟩:=k5 _ _ _ _ r1 g2;refine⟨u,hu,hr.frame (λhl hn=>rD _ (λe=> ?_))⟩
        have:=((gz rfl).one _ _ _ _ ⟨y,x1,r1,g2,hl⟩ DC hn Cb e).2;simp at hq;omega
      ·rw[bG ID]at g1;obtain⟨u,hu,hr⟩:=k5 _ _ _ _ g1 g2;exact⟨u,hu,hr.frame (λhl hn=>rD _ (λe=>ID ((gz rfl).one _ _ _ _ ⟨y1,x1,g1,g2,hl⟩ DC hn Cb e).1))⟩
     refine tl cf dJ hd hg (ob':= .row el ai (eA xs i j [CV.l e2 (eA zs i2 j2 cs)])) ?_ ?_ (λzs hz=>by cases hz) (s:= .un) trivial (λn hn=>by simp[cJ]at hn) (w':=w') (λb hb P4=>rD b (λe=>P4 (.inr ⟨rfl,i,j,DC,Cb,e⟩))) (by rw[<-M7];simp[lC]) (by rw[<-M7];rfl) (by rw[<-M7];rfl) (by rw[<-M7];rfl) (.inr ⟨?_,rfl⟩)
     ·exact⟨⟨te,q1,gi,sD⟩,oF,λhx=>⟨λi1 j1 hh=>(gz hx).out i1 j1 (same i1 j1 hh),λi1 j1 i2 j2 h1 h2=>(gz hx).one i1 j1 i2 j2 (same i1 j1 h1) (same i2 j2 h2)⟩⟩
     ·rintro b (hb|⟨hx,i1,j1,hh,hn⟩)
      ·exact .inl hb
      ·exact .inr ⟨hx,i1,j1,same i1 j1 hh,hn⟩
     ·rw[<-M7];refine exec hpv hb ?_;rw[dS]at mD;exact mD
    ·simp at h5
   |_=>simp at h5
  |_=>simp[Hd]at h5
 |j9=>simp at h
 |un=>simp at h
end
end Go.FG

namespace Go.FG
theorem Pp{ks:aC Ck}(h:plain ks=ai):K9 ks=true:=by refine bu.2 (λk hk=> ?_);have:=bu.1 h k hk;cases k<;>first|rfl|exact this
theorem tF{xs:aQ}{ks:aC Ck}(h:∀y∈xs,y.map CV.kd=ks)(hp:plain ks=ai){i j:aE}:¬gm xs i j:=by intro hx;obtain⟨_,e,hk⟩:=(k_ h i j).1 hx;have:=bu.1 hp _ (aR hk);cases this
theorem Ic{xs z:aQ}{lo hi:aE}(h1:lo<=hi)(h2:hi<=xs.length)(hz:z.length=hi-lo)(i:aE):(xs.take lo++z++xs.drop hi)[i]? =if lo<=i/\i<hi then z[i-lo]? else xs[i]? :=by
 by_cases a:i<lo
 ·rw[bG (by omega),cq,dF (by simp;omega),d_,bw a]
 ·by_cases b:i<hi
  ·rw[bw ⟨by omega,b⟩,cq,dc (by simp;omega),dF (by simp;omega)];congr 1;simp;omega
  ·rw[bG (by omega),cq,dc (by simp;omega),dc (by simp;omega),dR];congr 1;simp;omega
section
variable {P:cZ} {E:fU} {σ:St} {a:Act} {w:bK} {c:eZ} {o:fA} {nm:aE} {e:sO}
theorem PC{t ty el:aE}{z:bj}{inf:JZ}(hu:P.underlying t=ah (.slice el))(hi:P.info? el=ah inf)(hz:inf.zero=ah z){b of n cp:aE}{cur:dq bj}(hn:0<n)(hb:nQ w b cur)(hf:of+n*z.cells.size<=cur.size)(h1:∀u∈z.cells.toList,u.oneCell'=ai):
  (oJ #[t] ty #[.slice (ah (ad b of)) n cp]).run P w= .ok (.tuple #[]) (w.setRow b (ed cur of (madeCells z.cells (n*z.cells.size)).toList)):=by
 have KR:=nD (P:=P) w (o:=of) (vs:=(madeCells z.cells (n*z.cells.size)).toList) hb (by simpa [size_madeCells]using hf) (λv hv=>by
  unfold madeCells at hv;simp only[Ae,cX]at hv;obtain⟨q,hq,rfl⟩:=hv;have hq:q<n*z.cells.size:=by simpa using hq
  have hp:0<z.cells.size:=by rcases C3 z.cells.size with h|h;(rw[h]at hq;simp at hq);exact h
  have:q%z.cells.size<z.cells.size:=C4 _ hp;rw[getElem!_pos z.cells _ this];exact h1 _ (by simp))
 have hz':(fP z.cells n)=madeCells z.cells (n*z.cells.size):=rfl;cases n with
 |zero=>omega
 |succ n=>simp[oJ,run_underlying hu,zeroValue,typeInfo,hi,hz,hz',KR]
theorem CK{t ty el:aE}(hu:P.underlying t=ah (.slice el)){A:az Addr}{cp:aE}:(oJ #[t] ty #[.slice A 0 cp]).run P w= .ok (.tuple #[]) w:=by cases A<;>simp[oJ,run_underlying hu]
theorem TW(hE:eC P E)(cf:Ok E σ w c)(dJ:fC E σ a w c)(hd:∀d,o.dst=ah d->d<a.tmps.size){cl:Call}(ho:o.op= .call cl)(hb:cl.callee= .builtin .clear)(h:(l_ E nm o).val σ=ah e):gU P E σ a w c o e.ws:=by
 simp only[l_,ho,hb]at h;split at h
 ·rename_i x hx;split at h
  ·rename_i t ht;obtain⟨k,hk,h⟩:=Rd.bind_some h;cases k with
   |l el=>
    obtain⟨v,h1,h⟩:=Rd.bind_some h;obtain⟨ws,h2,h⟩:=Rd.bind_some h;obtain rfl:=aJ h;obtain⟨ev,kv⟩:=iX dJ h1;have hu:=kH hE hk;have hx:=ny hx;have ht:=ny ht;have exec:∀{w'},(oJ #[t] o.type #[a.eval x]).run P w= .ok (.tuple #[]) w'->(execOp a.eval o).run P w= .ok (.value (.tuple #[])) w':=by intro w' hr;obtain⟨cs,Hz⟩:=mP (P:=P) (a:=a) (w:=w) ho hb;rw[Hz,hx,ht];simp only[builtin,Dg,fB,BD];exact iW hr
    have sv:jh E w c (.j9 []) (.tuple #[]):=⟨#[],rfl,rfl,λj agg xs hj=>by simp at hj⟩
    have aj:∀A cp,a.eval x= .slice A 0 cp->(execOp a.eval o).run P w= .ok (.value (.tuple #[])) w:=λA cp hv=>exec (by rw[hv];exact CK hu);have main:∀(n:aE) (ex:aW) (xs:aQ) (lo hi:aE) (te:TI),σ (c_ n)= .o (.row el ex xs)->E.ty el=ah te->plain te.ks=ai->wM (c.P n) lo hi (a.eval x)->gU P E σ a w c o ([(c_ n, .o (.row el ex (xs.take lo++aN te.ks (hi-lo)++xs.drop hi)))]++dw o (.j9 [])):=by
     intro n ex xs lo hi te hg KT sL hv;obtain⟨⟨t2,q1,gi,mG⟩,gh,gz⟩:=cf.obj n _ hg;obtain rfl:te=t2:=aJ (KT.symm.trans q1);obtain⟨v1,v2,v3,v4⟩:=hv;have hle:hi<=xs.length:=by rw[<-gh.n];exact v2
     have xA:=Pp sL;have KU:(aN te.ks (hi-lo)).length=hi-lo:=by simp[aN]
     by_cases hz:hi-lo=0
     ·have aiT:xs.take lo++aN te.ks (hi-lo)++xs.drop hi=xs:=by
       have:hi=lo:=by omega
       subst this;simp[aN]
      rw[aiT];have hr:(execOp a.eval o).run P w= .ok (.value (.tuple #[])) w:=by
       cases hq:(c.P n).nil with
       |true=>exact aj _ _ (v3 hq)
       |false=>
        rcases v4 hq with ⟨_,h⟩|⟨_,oo,_,h⟩
        ·rw[hz]at h;exact aj _ _ h
        ·exact aj _ _ h
      exact tl cf dJ hd hg (cf.obj n _ hg) (λb hb=>hb) (λzs hz=>by cases hz) sv (λn hn=>by simp[cJ]at hn) (λb _ _=>rfl) (cw _) rfl rfl rfl (.inl hr)
     ·have jv:(c.P n).nil=false:=by
       cases hq:(c.P n).nil with
       |false=>rfl
       |true=>have:=(gh.nil hq).1;subst this;simp at hle;omega
      obtain⟨vals,k1,k2,k3,k4,k5⟩:=gh.mem jv;rcases v4 jv with ⟨u1,hv⟩|⟨u1,oo,_,hv⟩
      ·obtain⟨inf,j7,ay9,_,_,JL⟩:=hE.info el te KT;obtain⟨z,DI,hz3,_⟩:=JL xA;have P7:z.cells.size=te.ks.length:=by rw[hz3];simp
       have hbd:(c.P n).off+lo*(c.P n).sz+(hi-lo)*z.cells.size<=vals.size:=by rw[P7,<-gi,lW,<-dp];have:(lo+(hi-lo))*(c.P n).sz<=(c.P n).cap*(c.P n).sz:=bZ _ (by omega);omega
       have hr:=PC (P:=P) (w:=w) (ty:=o.type) (of:=(c.P n).off+lo*(c.P n).sz) (n:=hi-lo) (cp:=(c.P n).cap-lo) hu j7 DI (by omega) k1 hbd (by rw[hz3];intro u r_;obtain⟨k,vf,rfl⟩:=cX.1 (by simpa using r_:u∈te.ks.map iJ);cases k<;>rfl);rw[<-hv]at hr;have vU:wy σ c (c.P n).blk:=⟨n,_,hg, .inl ⟨jv,rfl⟩⟩
       rw[P7,hz3]at hr;have hml:(madeCells (te.ks.map iJ).toArray ((hi-lo)*te.ks.length)).toList.length=(hi-lo)*te.ks.length:=by simp[size_madeCells]
       have aen:(c.P n).off+lo*(c.P n).sz+(madeCells (te.ks.map iJ).toArray ((hi-lo)*te.ks.length)).toList.length<=vals.size:=by rw[hml,<-P7];exact hbd
       have Ez:=k1.setRow (e8 aen);have aix:=gu aen;generalize zm:ed vals ((c.P n).off+lo*(c.P n).sz) (madeCells (te.ks.map iJ).toArray ((hi-lo)*te.ks.length)).toList=new at hr Ez aix;have arV:new.size=vals.size:=by rw[<-zm];exact e8 aen
       have rD:∀b,b≠(c.P n).blk->(w.setRow (c.P n).blk new).heap[b]? =w.heap[b]? :=λb hb=>setRow_other w _ b _ hb;have hw:∀b,c.K b->(w.setRow (c.P n).blk new).heap[b]? =w.heap[b]? :=λb hk=>rD b (λe=>by subst e;exact cf.Ja vU hk);have sD:∀y∈xs.take lo++aN te.ks (hi-lo)++xs.drop hi,y.map CV.kd=te.ks:=by
        intro y hy;rw[bc,bc]at hy;rcases hy with (hy|hy)|hy
        ·exact mG y (kV hy)
        ·exact yq xA _ y hy
        ·exact mG y (kU hy)
       refine tl cf dJ hd hg (ob':= .row el ex (xs.take lo++aN te.ks (hi-lo)++xs.drop hi)) ?_ ?_ (λzs hz=>by cases hz) (w':=w.setRow (c.P n).blk new) ⟨#[],rfl,rfl,λj agg xs hj=>by simp at hj⟩ (λn hn=>by simp[cJ]at hn) (λb _ P4=>rD b (λe=>P4 (.inl ⟨jv,e⟩))) (by simp[lC]) rfl rfl rfl (.inl (exec hr))
       ·refine⟨⟨te,KT,gi,sD⟩,⟨?_,λhn=>(by rw[jv]at hn;cases hn),λ_=>⟨new,Ez,k2,k3,by rw[arV];exact k4,λi y j x lZ hj=> ?_⟩⟩,λ_=>⟨λi j hh=>cO hh (tF sD sL),λi j i' j' hh=>cO hh (tF sD sL)⟩⟩
        ·rw[gh.n];simp[aN];omega
        ·have hl:=iq sL (sD y (aR lZ)) hj;have jW:j<te.ks.length:=by rw[<-sD y (aR lZ),bR];exact(aT.1 hj).1
         have toR:∀u,Sc u x->(if ex=ai then XC E (w.setRow (c.P n).blk new) (c.G n) i j u x else da E (w.setRow (c.P n).blk new) c.K u x):=by
          intro u hu;split
          ·exact uz hl hu
          ·exact kM hl hu
         rw[Ic v1 hle KU]at lZ;rw[aix,hml];by_cases hq:lo<=i/\i<hi
         ·rw[bw hq]at lZ;obtain⟨aiA,k,hk1,rfl⟩:=uD lZ hj;have h2:(i-lo+1)*te.ks.length<=(hi-lo)*te.ks.length:=bZ _ aiA;have h3:i*te.ks.length=lo*te.ks.length+(i-lo)*te.ks.length:=by rw[<-dp];congr 1;omega
          rw[dp]at h2;rw[gi,bw (by omega)];refine⟨iJ k, ?_,toR _ ?_⟩
          ·have:=lP (n:=hi-lo) aiA hk1;rw[cW,<-this];congr 1;omega
          ·have W8:=bu.1 sL k (aR hk1);cases k<;>first|exact⟨rfl,trivial⟩|exact⟨rfl,bB _⟩|cases W8
         ·rw[bG hq]at lZ;obtain⟨u,r_,DE⟩:=k5 i y j x lZ hj;refine⟨u, ?_,toR u ?_⟩
          ·rw[bG ?_];exact r_;rw[gi];by_cases Ca:i<lo
           ·have:(i+1)*te.ks.length<=lo*te.ks.length:=bZ _ Ca;rw[dp]at this;omega
           ·have:hi*te.ks.length<=i*te.ks.length:=bZ _ (by omega);have h3:hi*te.ks.length=lo*te.ks.length+(hi-lo)*te.ks.length:=by rw[<-dp];congr 1;omega
            omega
          ·split at DE
           ·exact uB DE hl
           ·exact pe DE hl
       ·rintro b (hb|⟨_,i,j,hh,_⟩)
        ·exact .inl hb
        ·exact cO hh (tF sD sL)
      ·omega
    unfold RT at h2;cases v with
    |nl=>obtain rfl:=aJ h2;exact gF cf dJ hd sv (λn hn=>by simp[cJ]at hn) (aj _ _ ev)
    |own n=>
     obtain⟨ob,hg,h2⟩:=Rd.bind_some h2;have hg:=dy hg;cases ob with
     |row e' ex xs=>obtain⟨te,q1,h2⟩:=Rd.bind_some h2;obtain⟨q2,h2⟩:=cM h2;obtain rfl:=aJ h2;simp only[aL]at q2;have:=aU q2.1;subst this;have ev:a.eval x=lO (c.P n):=ev;have:=main n ex xs 0 xs.length te hg (dX q1) q2.2 (by rw[ev];exact v_ cf hg);simpa using this
     |_=>simp at h2
    |vw n lo hi=>
     obtain⟨ob,hg,h2⟩:=Rd.bind_some h2;have hg:=dy hg;cases ob with
     |row e' ex xs=>obtain⟨te,q1,h2⟩:=Rd.bind_some h2;obtain⟨q2,h2⟩:=cM h2;obtain rfl:=aJ h2;simp only[aL]at q2;have:=aU q2.1;subst this;exact main n ex xs lo hi te hg (dX q1) q2.2 ev
     |_=>simp at h2
    |_=>simp at h2
   |_=>simp at h
  ·simp at h
 ·simp at h
end
end Go.FG

namespace Go.FG
def ka(D:aC (aE×Obj)):aC (aE×eO):=D.map λd=>(c_ d.1, .o d.2)
def uE(D:aC (aE×Obj))(m:aE):Prop:=∃x,(m,x)∈D
theorem Zj:∀(D:aC (aE×Obj)) (σ:St),(∀m,(wr σ (ka D) (c_ m)=σ (c_ m)/\¬uE D m)\/∃x,(m,x)∈D/\wr σ (ka D) (c_ m)= .o x)/\∀m,slot (wr σ (ka D)) m=slot σ m:=by
 intro D;induction D with
 |nil=>intro σ;exact⟨λm=> .inl ⟨rfl,λ⟨x,hx⟩=>by cases hx⟩,λm=>rfl⟩
 |cons d D ih=>
  intro σ;obtain⟨n,x⟩:=d;obtain⟨h1,h2⟩:=ih (pG σ (c_ n) (.o x));refine⟨λm=> ?_,λm=> ?_⟩
  ·show(wr (pG σ (c_ n) (.o x)) (ka D) (c_ m)=_/\_)\/∃y,_/\wr (pG σ (c_ n) (.o x)) (ka D) (c_ m)=_;rcases h1 m with ⟨q1,q2⟩|⟨y,q1,q2⟩
   ·rw[pU]at q1;by_cases hm:m=n
    ·subst hm;exact .inr ⟨x,by simp,by rw[q1,bw rfl]⟩
    ·refine .inl ⟨by rw[q1,bG hm],λ⟨y,hy⟩=> ?_⟩;rcases cu.1 hy with hy|hy
     ·cases hy;exact hm rfl
     ·exact q2 ⟨y,hy⟩
   ·exact .inr ⟨y,c7 _ q1,q2⟩
  ·show slot (wr (pG σ (c_ n) (.o x)) (ka D)) m=_;rw[h2,jl]
section
variable {P:cZ} {E:fU} {σ:St} {a:Act} {w:bK} {c:eZ} {o:fA} {nm:aE} {e:sO}
theorem Ia(cf:Ok E σ w c)(dJ:fC E σ a w c){o:fA}(hd:∀d,o.dst=ah d->d<a.tmps.size){D:aC (aE×Obj)}{s:SV}{v:bj}{w':bK}{c':eZ}
  (hA:jA σ c c')
  (mS:∀n x,(n,x)∈D->pJ E w' c' n x)
  (pN:∀n x b,(n,x)∈D->fN c' n x b->(jZ (uE D) σ c b\/w.heap.size<=b)/\¬c'.K b)
  (Sq:∀n x n' x' b,(n,x)∈D->(n',x')∈D->fN c' n x b->fN c' n' x' b->n=n')
  (IG:∀n xs,(n,Obj.box xs)∈D->∀a∈xs,∀m∈bN a,σ (c_ m)≠ .jX\/uE D m)
  (hK:∀b,c.K b->c'.K b) (VO:∀b,c'.K b->c.K b\/jZ (uE D) σ c b\/w.heap.size<=b) (GD:∀b,c'.K b->b<w'.heap.size)
  (hW:∀b,b<w.heap.size->¬jZ (uE D) σ c b->w'.heap[b]? =w.heap[b]?) (gi:w.heap.size<=w'.heap.size) (OV:w'.os=w.os) (Xc:w'.tape=w.tape) (W7:w'.output=w.output)
  (yw:jh E w' c' s v) (AH:∀n∈cJ s,σ (c_ n)≠ .jX\/uE D n):
  Ok E (wr σ (ka D++dw o s)) w' c'/\fC E (wr σ (ka D++dw o s)) (a.put o.dst v) w' c'/\oi σ c w (wr σ (ka D++dw o s)) c' w':=by
 rw[PK];obtain⟨d1,d2⟩:=Zj D σ;let σ1:=wr σ (ka D);obtain⟨s1,s2,s3⟩:=rP σ1 o s;have key:∀m,(wr σ1 (dw o s) (c_ m)=σ (c_ m)/\¬uE D m)\/∃x,(m,x)∈D/\wr σ1 (dw o s) (c_ m)= .o x:=λm=>by rw[s3];exact d1 m
 have iw:∀m,(σ (c_ m)≠ .jX\/uE D m)->wr σ1 (dw o s) (c_ m)≠ .jX:=by
  intro m hm;rcases key m with ⟨h1,h2⟩|⟨x,_,h2⟩
  ·rw[h1];exact hm.resolve_right h2
  ·rw[h2];simp
 have get:∀m x,uE D m->wr σ1 (dw o s) (c_ m)= .o x->(m,x)∈D:=by
  intro m x hm hx;rcases key m with ⟨_,h2⟩|⟨y,h1,h2⟩
  ·exact cO hm h2
  ·rw[h2]at hx;cases hx;exact h1
 have hh:=cf.change (σ':=wr σ1 (dw o s)) (w':=w') (c':=c') (uE D) (λm hm=>(key m).elim (λh=>h.1) (λ⟨x,h1,_⟩=>cO ⟨x,h1⟩ hm)) (λm hm=>iw m (.inl hm)) hA hW gi hK VO GD
  (λm x hm ho=>mS m x (get m x hm ho)) (λm x b hm ho hf=>pN m x b (get m x hm ho) hf) (λm x m' x' b hm w_ ho vg hf vd=>Sq m x m' x' b (get m x hm ho) (get m' x' w_ vg) hf vd)
  (λm xs hm ho y hy n kF=>iw n (IG m xs (get m _ hm ho) y hy n kF)) OV Xc W7
 refine⟨hh.1, ?_,hh.2⟩
 refine dJ.change cf hh.2 hA (λm hm=>iw m (.inl hm)) o v (λn kF=>by rw[s1 n kF];exact d2 n) (λd ho=>⟨hd d ho, ?_, ?_⟩)
 ·rw[s2 d ho];exact yw
 ·rw[s2 d ho];intro n kF;exact iw n (AH n kF)
theorem KE(cf:Ok E σ w c)(dJ:fC E σ a w c){o:fA}(hd:∀d,o.dst=ah d->d<a.tmps.size){D:aC (aE×Obj)}{s:SV}{v:bj}{w':bK}{c':eZ}
  (hA:jA σ c c')
  (mS:∀n x,(n,x)∈D->pJ E w' c' n x)
  (pN:∀n x b,(n,x)∈D->fN c' n x b->(jZ (uE D) σ c b\/w.heap.size<=b)/\¬c'.K b)
  (Sq:∀n x n' x' b,(n,x)∈D->(n',x')∈D->fN c' n x b->fN c' n' x' b->n=n')
  (IG:∀n xs,(n,Obj.box xs)∈D->∀a∈xs,∀m∈bN a,σ (c_ m)≠ .jX\/uE D m)
  (hK:∀b,c.K b->c'.K b) (VO:∀b,c'.K b->c.K b\/jZ (uE D) σ c b\/w.heap.size<=b) (GD:∀b,c'.K b->b<w'.heap.size)
  (hW:∀b,b<w.heap.size->¬jZ (uE D) σ c b->w'.heap[b]? =w.heap[b]?) (gi:w.heap.size<=w'.heap.size) (OV:w'.os=w.os) (Xc:w'.tape=w.tape) (W7:w'.output=w.output)
  (yw:jh E w' c' s v) (AH:∀n∈cJ s,σ (c_ n)≠ .jX\/uE D n)
  (hr:(execOp a.eval o).run P w= .ok (.value v) w'):gU P E σ a w c o (ka D++dw o s):=by intro K Q hQ;obtain⟨h1,h2,h3⟩:=Ia cf dJ hd hA mS pN Sq IG hK VO GD hW gi OV Xc W7 yw AH;exact yo hr (hQ v w' c' h1 h2 h3 hA.w)
def Bp(σ:St)(c:eZ)(m:az aE)(u:bj):CV->Prop
 | .l e ys=>(m=aj/\ys=[]/\u= .slice aj 0 0)\/∃nm,m=ah nm/\u=lO (c.P nm)/\σ (c_ nm)= .o (.row e ai ys)
 |x=>Sc u x
def Ek(L:aC aE):aC (aE×Obj):=L.map λn=>(n, .dead)
theorem BU(L:aC aE):oc L=ka (Ek L):=by unfold oc ka Ek;rw[mg];rfl
theorem WK{k:Ck}{x:AV}{cv:CV}{ws:aC (aE×eO)}(h:(Ik ai k x).val σ=ah (cv,ws)):
  cv.kd=k/\∃m:az aE,ws=oc m.toList/\(∀nm,m=ah nm->∃ob,σ (c_ nm)= .o ob)/\∀u,eG E w c x u->Bp σ c m u cv:=by
 have pl:plain [k]=ai->cv.kd=k/\∃m:az aE,ws=oc m.toList/\(∀nm,m=ah nm->∃ob,σ (c_ nm)= .o ob)/\∀u,eG E w c x u->Bp σ c m u cv:=by
  intro hp;have kd1:cv.kd=k/\ws=[]:=by
   cases k<;>cases x<;>simp[Ik,plain]at h hp<;>first
    |(obtain⟨rfl,rfl⟩:=h;exact⟨rfl,rfl⟩)
    |(split at h<;>simp at h;rename_i hk;subst hk;obtain⟨rfl,rfl⟩:=h;exact⟨rfl,rfl⟩)
  refine⟨kd1.1,aj,kd1.2,λnm h=>(by cases h),λu hu=> ?_⟩
  obtain⟨_,h2,h3,_⟩:=zh hp h hu;cases cv<;>first|exact h2|simp[uj]at h3
 cases k with
 |i=>exact pl rfl
 |b=>exact pl rfl
 |s=>exact pl rfl
 |o=>cases x<;>simp[Ik]at h
 |l e=>
  cases x with
  |nl=>obtain⟨rfl,rfl⟩:=bT (aJ h);exact⟨rfl,aj,rfl,λnm h=>(by cases h),λu hu=> .inl ⟨rfl,rfl,hu⟩⟩
  |sh e' xs=>simp[Ik]at h
  |own n=>
   obtain⟨ob,hg,h⟩:=Rd.bind_some h;have hg:=dy hg;cases ob with
   |row e' uh xs=>obtain⟨h1,h⟩:=cM h;obtain⟨rfl,rfl⟩:=bT (aJ h);simp only[aL]at h1;have:=aU h1.1;subst this;obtain rfl:=h1.2;exact⟨rfl,ah n,rfl,λnm h=>(by cases h;exact⟨_,hg⟩),λu hu=> .inr ⟨n,rfl,hu,hg⟩⟩
   |fV=>simp at h
   |_=>simp at h
  |_=>simp[Ik]at h
theorem RX:∀{ks:aC Ck} {xs:aC AV} {cs:aC CV} {ws:aC (aE×eO)} (h:(zi ai ks xs).val σ=ah (cs,ws)),cs.map CV.kd=ks/\xs.length=ks.length/\∃(L:aC aE) (M:aE->az aE),ws=oc L/\
  (∀nm∈L,∃ob,σ (c_ nm)= .o ob)/\(∀j nm,M j=ah nm->nm∈L)/\(L.Nodup->∀i j nm,M i=ah nm->M j=ah nm->i=j)/\
  ∀(vals:dq bj),gb E w c vals xs->∀(q:aE) (x:CV),cs[q]? =ah x->∃u:bj,vals[q]? =ah u/\Bp σ c (M q) u x:=by
 intro ks;induction ks with
 |nil=>
  intro xs cs ws h;cases xs with
  |nil=>obtain⟨rfl,rfl⟩:=bT (aJ h);exact⟨rfl,rfl,[],λ_=>aj,rfl,λnm h=>(by cases h),λj nm h=>(by cases h),λ_ i j nm h=>(by cases h),λ_ _ q x hq=>by simp at hq⟩
  |cons=>simp[zi]at h
 |cons k ks ih=>
  intro xs cs ws h;cases xs with
  |nil=>simp[zi]at h
  |cons x xs=>
   obtain⟨⟨cv,w1⟩,h1,h⟩:=Rd.bind_some h;obtain⟨⟨cr,w2⟩,h2,h⟩:=Rd.bind_some h;obtain⟨rfl,rfl⟩:=bT (aJ h);obtain⟨e1,m,rfl,e2,e3⟩:=WK (E:=E) (w:=w) (c:=c) h1;obtain⟨i1,i2,L,M,rfl,i4,i5,i6,i7⟩:=ih h2;refine⟨by simp[e1,i1],by simp[i2],m.toList++L,λj=>match j with|0=>m|j+1=>M j,by simp[oc], ?_, ?_, ?_, ?_⟩
   ·intro nm hnm;rcases bc.1 hnm with h|h
    ·exact e2 nm (by simpa using h)
    ·exact i4 nm h
   ·intro j nm hj;cases j with
    |zero=>exact bW _ (by simpa using hj)
    |succ j=>exact bP _ (i5 j nm hj)
   ·intro II i j nm hi hj;obtain⟨n1,n2,n3⟩:=eK.1 II;cases i with
    |zero=>
     cases j with
     |zero=>rfl
     |succ j=>exact cO rfl (n3 nm (by simpa using hi) nm (i5 j nm hj))
    |succ i=>
     cases j with
     |zero=>exact cO rfl (n3 nm (by simpa using hj) nm (i5 i nm hi))
     |succ j=>rw[i6 n2 i j nm hi hj]
   ·intro vals hv q y hq;cases q with
    |zero=>cases hq;obtain⟨u,hu,ha⟩:=hv.2 0 x rfl;exact⟨u,hu,e3 u ha⟩
    |succ q=>
     have M_:gb E w c (vals.extract 1 vals.size) xs:=by
      refine⟨by simp;have:=hv.1;simp at this;omega,λj b hj=> ?_⟩
      obtain⟨u,hu,hb⟩:=hv.2 (j+1) b hj;refine⟨u, ?_,hb⟩
      have:=(dV.1 hu).1;rw[ea,bw (by omega),iZ];exact hu
     obtain⟨u,r1,r2⟩:=i7 _ M_ q y hq;refine⟨u, ?_,r2⟩
     rw[ea]at r1;split at r1
     ·rw[iZ];exact r1
     ·cases r1
theorem Kp{k:Ck}{x:AV}{cv:CV}{ws:aC (aE×eO)}(cf:Ok E σ w c)(h:(Ik ak k x).val σ=ah (cv,ws)):cv.kd=k/\ws=[]/\∀u,eG E w c x u->da E w c.K u cv:=by
 have pl:plain [k]=ai->cv.kd=k/\ws=[]/\∀u,eG E w c x u->da E w c.K u cv:=by
  intro hp;have kd1:cv.kd=k/\ws=[]:=by
   cases k<;>cases x<;>simp[Ik,plain]at h hp<;>first
    |(obtain⟨rfl,rfl⟩:=h;exact⟨rfl,rfl⟩)
    |(split at h<;>simp at h;rename_i hk;subst hk;obtain⟨rfl,rfl⟩:=h;exact⟨rfl,rfl⟩)
  refine⟨kd1.1,kd1.2,λu hu=> ?_⟩
  obtain⟨_,h2,h3,_⟩:=zh hp h hu;exact kM h3 h2
 cases k with
 |i=>exact pl rfl
 |b=>exact pl rfl
 |s=>exact pl rfl
 |o=>cases x<;>simp[Ik]at h
 |l e=>
  cases x with
  |nl=>obtain⟨rfl,rfl⟩:=bT (aJ h);exact⟨rfl,rfl,λu hu=>by rw[show u=_ from hu];exact .nl _ _ _⟩
  |sh e' xs=>obtain⟨h1,h⟩:=cM h;obtain⟨rfl,rfl⟩:=bT (aJ h);simp only[aL]at h1;have:=aU h1.1;subst this;exact⟨rfl,rfl,λu hu=>hu⟩
  |own n=>
   obtain⟨ob,hg,h⟩:=Rd.bind_some h;have hg:=dy hg;cases ob with
   |row e' uh xs=>obtain⟨h1,h⟩:=cM h;simp at h
   |fV e' xs=>
    obtain⟨h1,h⟩:=cM h;obtain⟨rfl,rfl⟩:=bT (aJ h);simp only[aL]at h1;have:=aU h1.1;subst this;refine⟨rfl,rfl,λu hu=> ?_⟩
    have hu:u=lO (c.P n):=hu;rw[hu];exact(cf.obj n _ hg).1
   |_=>simp at h
  |_=>simp[Ik]at h
theorem Il(cf:Ok E σ w c):∀{ks:aC Ck} {xs:aC AV} {cs:aC CV} {ws:aC (aE×eO)} (h:(zi ak ks xs).val σ=ah (cs,ws)),cs.map CV.kd=ks/\xs.length=ks.length/\ws=[]/\
  ∀(vals:dq bj),gb E w c vals xs->∀(q:aE) (x:CV),cs[q]? =ah x->∃u:bj,vals[q]? =ah u/\da E w c.K u x:=by
 intro ks;induction ks with
 |nil=>
  intro xs cs ws h;cases xs with
  |nil=>obtain⟨rfl,rfl⟩:=bT (aJ h);exact⟨rfl,rfl,rfl,λ_ _ q x hq=>by simp at hq⟩
  |cons=>simp[zi]at h
 |cons k ks ih=>
  intro xs cs ws h;cases xs with
  |nil=>simp[zi]at h
  |cons x xs=>
   obtain⟨⟨cv,w1⟩,h1,h⟩:=Rd.bind_some h;obtain⟨⟨cr,w2⟩,h2,h⟩:=Rd.bind_some h;obtain⟨rfl,rfl⟩:=bT (aJ h);obtain⟨e1,e2,e3⟩:=Kp cf h1;obtain⟨i1,i2,i3,i7⟩:=ih h2;refine⟨by simp[e1,i1],by simp[i2],by rw[e2,i3];rfl,λvals hv q y hq=> ?_⟩
   cases q with
   |zero=>cases hq;obtain⟨u,hu,ha⟩:=hv.2 0 x rfl;exact⟨u,hu,e3 u ha⟩
   |succ q=>
    have M_:gb E w c (vals.extract 1 vals.size) xs:=by
     refine⟨by simp;have:=hv.1;simp at this;omega,λj b hj=> ?_⟩
     obtain⟨u,hu,hb⟩:=hv.2 (j+1) b hj;refine⟨u, ?_,hb⟩
     have:=(dV.1 hu).1;rw[ea,bw (by omega),iZ];exact hu
    obtain⟨u,r1,r2⟩:=i7 _ M_ q y hq;refine⟨u, ?_,r2⟩
    rw[ea]at r1;split at r1
    ·rw[iZ];exact r1
    ·cases r1
end
end Go.FG

namespace Go.FG
section
variable {P:cZ} {E:fU} {σ:St} {a:Act} {w:bK} {c:eZ} {o:fA} {nm:aE} {e:sO}
structure Inv (E:fU) (σ:St) (w:bK) (c:eZ) (ex:aW) (ks:aC Ck) (vals:dq bj) (z:aQ) (N:aE->aE->az aE) (S:aC aE):Prop where
 size:vals.size=z.length*ks.length
 sh:∀y∈z,y.map CV.kd=ks
 inS:∀i j nm,N i j=ah nm->nm∈S
 inj:∀i j i' j' nm,N i j=ah nm->N i' j'=ah nm->i=i'/\j=j'
 cell:∀(i:aE) (y:aC CV) (j:aE) (x:CV),z[i]? =ah y->y[j]? =ah x->∃u:bj,vals[i*ks.length+j]? =ah u/\(if ex=ai then Bp σ c (N i j) u x else da E w c.K u x)
theorem Inv.set{ex:aW}{ks:aC Ck}{vals:dq bj}{z:aQ}{N:aE->aE->az aE}{S:aC aE}(h:Inv E σ w c ex ks vals z N S){i0:aE}(hi:i0<z.length){cs:aC CV}{vs:dq bj}(hk:cs.map CV.kd=ks)(Su:vs.size=ks.length)
  {M:aE->az aE} {L:aC aE} (hM:∀j nm,M j=ah nm->nm∈L) (hMi:∀i j nm,M i=ah nm->M j=ah nm->i=j) (hd:∀nm∈L,nm∉S)
  (hc:∀(q:aE) (x:CV),cs[q]? =ah x->∃u:bj,vs[q]? =ah u/\(if ex=ai then Bp σ c (M q) u x else da E w c.K u x)):
  Inv E σ w c ex ks (ed vals (i0*ks.length) vs.toList) (z.set i0 cs) (λi j=>if i=i0 then M j else N i j) (S++L):=by
 have h1:(i0+1)*ks.length<=z.length*ks.length:=bZ _ hi;rw[dp]at h1;have hb:i0*ks.length+vs.toList.length<=vals.size:=by rw[h.size,show vs.toList.length=ks.length from Su];omega
 refine⟨by rw[e8 hb,cQ];exact h.size, ?_, ?_, ?_, ?_⟩
 ·intro y hy;rcases jD hy with hy|hy
  ·exact h.sh y hy
  ·rw[hy];exact hk
 ·intro i j nm hn;replace hn:(if i=i0 then M j else N i j)=ah nm:=hn;split at hn
  ·exact bP _ (hM j nm hn)
  ·exact bW _ (h.inS i j nm hn)
 ·intro i j i' j' nm hn kF;replace hn:(if i=i0 then M j else N i j)=ah nm:=hn;replace kF:(if i'=i0 then M j' else N i' j')=ah nm:=kF;split at hn
  ·rename_i e1;split at kF
   ·rename_i e2;exact⟨e1.trans e2.symm,hMi j j' nm hn kF⟩
   ·exact cO (h.inS i' j' nm kF) (hd nm (hM j nm hn))
  ·split at kF
   ·exact cO (h.inS i j nm hn) (hd nm (hM j' nm kF))
   ·exact h.inj i j i' j' nm hn kF
 ·intro i y j x hy hx;rw[PR]at hy;rw[gu hb,show vs.toList.length=ks.length from Su];by_cases ID:i0=i
  ·subst ID;rw[bw rfl,bw hi]at hy;cases hy;have hj:j<ks.length:=by rw[<-hk,bR];exact(aT.1 hx).1
   obtain⟨u,hu,hr⟩:=hc j x hx;refine⟨u, ?_,by simpa using hr⟩
   rw[bw (by omega),cW,<-hu];congr 1;omega
  ·rw[bG ID]at hy;obtain⟨u,hu,hr⟩:=h.cell i y j x hy hx;have hj:j<ks.length:=by rw[<-h.sh y (aR hy),bR];exact(aT.1 hx).1
   refine⟨u, ?_,by rw[show(if i=i0 then M j else N i j)=N i j from bG (λe=>ID e.symm)];exact hr⟩
   rw[bG ?_];exact hu;rcases PV ID with jm|hgt
   ·have:(i0+1)*ks.length<=i*ks.length:=bZ _ jm;rw[dp]at this;omega
   ·have:(i+1)*ks.length<=i0*ks.length:=bZ _ hgt;rw[dp]at this;omega
theorem Oy(cf:Ok E σ w c)(dJ:fC E σ a w c){ex:aW}{ks:aC Ck}(kZ:0<ks.length):∀(ps:aC (aE×dx)) (z z':aQ) (ws:aC (aE×eO)),(Ko ex ks ps z).val σ=ah (z',ws)->
  z'.length=z.length/\∃L,ws=oc L/\(∀nm∈L,∃ob,σ (c_ nm)= .o ob)/\∀vals N S,(S++L).Nodup->Inv E σ w c ex ks vals z N S->
   ∃i9 N',pr (λi=>ah (i*ks.length,ks.length)) vals (ps.map λ(i,x)=>(i,a.eval x))=ah i9/\Inv E σ w c ex ks i9 z' N' (S++L):=by
 intro ps;induction ps with
 |nil=>intro z z' ws h;obtain⟨rfl,rfl⟩:=bT (aJ h);exact⟨rfl,[],rfl,λnm h=>(by cases h),λvals N S _ hi=>⟨vals,N,rfl,by rw[dj];exact hi⟩⟩
 |cons p r ih=>
  obtain⟨i0,x⟩:=p;intro z z' ws h;obtain⟨v,h1,h⟩:=Rd.bind_some h;obtain⟨OX,hkv⟩:=mm dJ h1;cases v with
  |v g ys=>
   obtain⟨h2,h⟩:=cM h;have h2:=cG h2;obtain⟨⟨cs,w1⟩,h3,h⟩:=Rd.bind_some h;obtain⟨⟨z1,w2⟩,h4,h⟩:=Rd.bind_some h;obtain⟨rfl,rfl⟩:=bT (aJ h);have pw:=qa.cells OX
   have Ik:cs.map CV.kd=ks/\ys.length=ks.length/\∃(L:aC aE) (M:aE->az aE),w1=oc L/\(∀nm∈L,∃ob,σ (c_ nm)= .o ob)/\(∀j nm,M j=ah nm->nm∈L)/\(L.Nodup->∀i j nm,M i=ah nm->M j=ah nm->i=j)/\
     ∀(q:aE) (x:CV),cs[q]? =ah x->∃u:bj,(a.eval ‹dx›).cells[q]? =ah u/\(if ex=ai then Bp σ c (M q) u x else da E w c.K u x):=by
    cases ex with
    |true=>obtain⟨q1,q2,L,M,q3,q4,q5,q6,q7⟩:=RX (E:=E) (w:=w) (c:=c) h3;exact⟨q1,q2,L,M,q3,q4,q5,q6,λq x hq=>by simpa using q7 _ pw q x hq⟩
    |false=>obtain⟨q1,q2,q3,q4⟩:=Il cf h3;exact⟨q1,q2,[],λ_=>aj,q3,λnm h=>(by cases h),λj nm h=>(by cases h),λ_ i j nm h=>(by cases h),λq x hq=>by simpa using q4 _ pw q x hq⟩
   obtain⟨q1,q2,L,M,rfl,q4,q5,q6,q7⟩:=Ik;obtain⟨i1,L2,rfl,i3,i4⟩:=ih _ _ _ h4;rw[cQ]at i1;refine⟨i1,L++L2,by simp[oc],λnm hn=>(bc.1 hn).elim (q4 nm) (i3 nm),λvals N S II hinv=> ?_⟩
   have aiJ:((S++L)++L2).Nodup:=by rw[cq];exact II
   obtain⟨n1,n2,n3⟩:=eK.1 aiJ;obtain⟨m1,m2,m3⟩:=eK.1 n1;have Su:(a.eval x).cells.size=ks.length:=by rw[pw.1,q2]
   have aiC:=hinv.set (i0:=i0) (by omega) q1 Su q5 (q6 m2) (λnm hn hs=>m3 nm hs nm hn rfl) q7;obtain⟨i9,N',f1,f2⟩:=i4 _ _ _ aiJ aiC;refine⟨i9,N', ?_,by rw[<-cq];exact f2⟩
   have h1:(i0+1)*ks.length<=z.length*ks.length:=bZ _ h2;rw[dp,<-hinv.size]at h1;simp only[fB,pr];rw[bG (by simp[Su];omega)];have:=Es (off:=i0*ks.length) (vs:=(a.eval x).cells) (cells:=vals) (by omega);rw[<-f1];exact lI (λq=>pr (λi=>ah (i*ks.length,ks.length)) q _) this
  |j9=>simp at h
  |un=>simp at h
theorem CJ{t el n:aE}{inf:JZ}{z:bj}{ks:aC Ck}{ps:dq (aE×bj)}{cells:dq bj}(hu:P.underlying t=ah (.slice el))(hi:P.info? el=ah inf)(gi:inf.size=ks.length)(hz:inf.zero=ah z)(hzc:z.cells=(ks.map iJ).toArray)
  (h24:n*ks.length<=16777216) (hf:pr (λi=>ah (i*ks.length,ks.length)) (madeCells (ks.map iJ).toArray (n*ks.length)) ps.toList=ah cells):
  (zN t n ps).run P w= .ok (.slice (ah (ad w.heap.size 0)) n n) (w.alloc (.cells cells el)):=by
 have ara:¬(n*ks.length>2^24):=by omega
 by_cases h0:n*ks.length=0
 ·have e0:(Array.range (n*ks.length)).map (λi=>(#[]:dq bj)[i%(#[]:dq bj).size]!)=madeCells (ks.map iJ).toArray (n*ks.length):=by rw[h0];simp[madeCells,Array.range_zero']
  simp only[zN,ch,run_underlying hu,bF,sizeOf,typeInfo,program,ng,hi,gi,cS,h0,if_true,m7];rw[h0]at e0 hf;rw[e0,hf];simp only[newRow,newObj,ch,ng,bF,cS];rfl
 ·have e0:(Array.range (n*ks.length)).map (λi=>z.cells[i%z.cells.size]!)=madeCells (ks.map iJ).toArray (n*ks.length):=by rw[hzc];rfl
  simp only[zN,ch,run_underlying hu,bF,sizeOf,typeInfo,program,ng,hi,gi,ara,if_false,cS,h0,zeroValue,hz,m7];rw[e0,hf];simp only[newRow,newObj,ch,ng,bF,cS];rfl
theorem qB:∀{l:aC aE},tB l=ai->l.Nodup
 |[],_=> .nil
 |n::r,h=>by
  simp only[tB,aL,dv]at h;refine kC.2 ⟨λhm=> ?_,qB h.2⟩;have:mF n r=true:=by
   have:=h.1;clear h;induction r with
   |nil=>cases hm
   |cons m r ih=>
    rcases cu.1 hm with rfl|hm
    ·simp[mF]
    ·simp only[mF,iF]at this⊢;rw[ih hm this.2];simp
  rw[this]at h;cases h.1
theorem rH{α β:Type}{f:α->β}:∀{l:aC α},(l.map f).Nodup->l.Nodup
 |[],_=> .nil
 |x::l,h=>by
  rw[fB,kC]at h;exact kC.2 ⟨λhm=>h.1 (cX.2 ⟨x,hm,rfl⟩),rH h.2⟩
theorem WV{ks:aC Ck}(hf:flat E ks=ai){e:aE}(hm:Ck.l e∈ks):∃t,E.ty e=ah t/\plain t.ks=true:=by
 have h:=bu.1 hf _ hm;replace h:(match E.ty e with|some ti=>plain ti.ks|none=>ak)=true:=h;cases ht:E.ty e with
 |none=>rw[ht]at h;cases h
 |some t=>rw[ht]at h;exact⟨t,rfl,h⟩
theorem Pz(cf:Ok E σ w c){n e:aE}{ex:aW}{xs:aQ}(hg:σ (c_ n)= .o (.row e ex xs)){t:TI}(ht:E.ty e=ah t)(hp:plain t.ks=ai):
  (c.P n).sz=t.ks.length/\(∀y∈xs,y.map CV.kd=t.ks)/\jg w (c.P n) xs (λ_ _ u x=>Sc u x):=by
 obtain⟨⟨t2,q1,q2,q3⟩,q4,_⟩:=cf.obj n _ hg;obtain rfl:t=t2:=aJ (ht.symm.trans q1);refine⟨q2,q3,q4.frame (λ_=>rfl) (λi j y x u hi hj hr=> ?_)⟩
 have hl:=iq hp (q3 y (aR hi)) hj;split at hr
 ·exact uB hr hl
 ·exact pe hr hl
theorem RQ(cf:Ok E σ w c){ks:aC Ck}(hf:flat E ks=ai){m:az aE}{G:aE->aE->Pl}{i j:aE}(hG:G i j=match m with|some n=>c.P n|none=>K7 E ks i j){u:bj}{x:CV}(hx:ks[j]? =ah x.kd){w':bK}(hw:∀b,b<w.heap.size->(∃n,m=ah n/\b=(c.P n).blk)->w'.heap[b]? =w.heap[b]?)(h:Bp σ c m u x):XC E w' G i j u x:=by
 cases x with
 |l e ys=>
  obtain⟨t,ht,hp⟩:=WV hf (aR hx);rcases h with ⟨rfl,rfl,rfl⟩|⟨n,rfl,rfl,hg⟩
  ·refine⟨by rw[hG];rfl,t,ht,hp, ?_,λy hy=>(by cases hy),⟨by rw[hG];rfl,λ_=>⟨rfl,by rw[hG];rfl⟩,λhn=>by rw[hG]at hn;cases hn⟩⟩
   rw[hG];show(match ks[j]? with|some (.l e)=>(match E.ty e with|some t=>t.ks.length|none=>0)|_=>0)=_;rw[hx];simp only[CV.kd,ht]
  ·obtain⟨q1,q2,q3⟩:=Pz cf hg ht hp;refine⟨by rw[hG],t,ht,hp,by rw[hG];exact q1,q2, ?_⟩
   rw[hG];refine q3.frame (λhn=>hw _ (wy.lt cf ⟨n,_,hg, .inl ⟨hn,rfl⟩⟩) ⟨n,rfl,rfl⟩) (λ_ _ _ _ _ _ _ h=>h)
 |i=>exact h
 |b=>exact h
 |s=>exact h
theorem DL(hE:eC P E)(cf:Ok E σ w c)(dJ:fC E σ a w c)(hd:∀d,o.dst=ah d->d<a.tmps.size){t n:aE}{ps:dq (aE×dx)}(ho:o.op= .buildSlice t n ps)(h:(l_ E nm o).val σ=ah e)(hc:e.cond=ai):gU P E σ a w c o e.ws:=by
 simp only[l_,ho]at h;obtain⟨ti,h1,h⟩:=Rd.bind_some h;have h1:=dX h1;split at h
 ·rename_i el ui AH;obtain⟨te,h2,h⟩:=Rd.bind_some h;have h2:=dX h2;obtain⟨xA,h⟩:=cM h;obtain⟨ex0,_,h⟩:=Rd.bind_some h;obtain⟨⟨xs,ws⟩,h3,h⟩:=Rd.bind_some h;obtain⟨u,h4,h⟩:=Rd.bind_some h;obtain⟨hf,jm⟩:=kE h4;obtain rfl:=aJ h;simp only[aL]at hc;obtain⟨h24,II⟩:=hc;have h24:=cG h24;have hu:=o7 hE h1 ui AH;obtain⟨inf,hi,gi,_,kZ,hz⟩:=hE.info el te h2;obtain⟨z,JL,DI,_⟩:=hz xA;have OP:(ex0&&flat E te.ks)=ai->flat E te.ks=true:=λh=>by simp only[aL]at h;exact h.2
  generalize (ex0&&flat E te.ks)=ex at h3 OP⊢;obtain⟨hlen,L,rfl,hL,Sn⟩:=Oy (c:=c) cf dJ kZ ps.toList _ _ _ h3;have II:L.Nodup:=by have:=qB II;unfold oc at this;rw[mg]at this;exact rH this
  obtain⟨vals,N,aiu,hinv⟩:=Sn (madeCells (te.ks.map iJ).toArray (n*te.ks.length)) (λ_ _=>aj) [] (by simpa using II)
   ⟨by rw[size_madeCells];simp[aN],yq xA n,λi j nm h=>(by cases h),λi j i' j' nm h=>(by cases h),λi y j x hy hx=>by
    obtain⟨gz,k,hk,rfl⟩:=uD hy hx;refine⟨iJ k,lP gz hk, ?_⟩
    have hko:=bu.1 xA k (aR hk);split
    ·cases k with
     |l e=>exact .inl ⟨rfl,rfl,rfl⟩
     |o=>cases hko
     |s=>exact⟨rfl,bB _⟩
     |_=>exact⟨rfl,trivial⟩
    ·exact LQ hko⟩
  rw[gD]at hinv;have hr:=CJ (P:=P) (w:=w) (n:=n) (ps:=ps.map λ(i,x)=>(i,a.eval x)) hu hi gi JL DI h24 (by rw[Ae];exact aiu);have KU:xs.length=n:=by rw[hlen];simp[aN]
  let g:aE->aE->Pl:=λi j=>match N i j with|some m=>c.P m|none=>K7 E te.ks i j
  let c':eZ:=⟨λm=>if m=nm then⟨ak,w.heap.size,0,n,n,te.ks.length⟩else c.P m,λm=>if m=nm then g else c.G m,c.K⟩
  have hP:c'.P nm=⟨ak,w.heap.size,0,n,n,te.ks.length⟩:=bw rfl;have hG:c'.G nm=g:=bw rfl;have hA:jA σ c c':=λm hm=>by
   have:m≠nm:=by rintro rfl;rcases hm with h|h;exact h hf;omega
   exact⟨bG this,bG this⟩
  have gN:∀i j,(g i j).nil=ak->∃m ob,N i j=ah m/\g i j=c.P m/\m∈L/\σ (c_ m)= .o ob:=by
   intro i j hn;cases hm:N i j with
   |none=>simp only[g,hm]at hn;cases hn
   |some m=>obtain⟨ob,mS⟩:=hL m (hinv.inS i j m hm);exact⟨m,ob,rfl,by simp only[g,hm],hinv.inS i j m hm,mS⟩
  have inn:∀i j,ex=ai->gm xs i j->(g i j).nil=ak->∃m el2 ys,N i j=ah m/\g i j=c.P m/\m∈L/\σ (c_ m)= .o (.row el2 ai ys)/\(c.P m).nil=false:=by
   rintro i j hex ⟨y,x,hy,hx,hl⟩ hn;obtain⟨m,ob,q1,q2,q3,q4⟩:=gN i j hn;obtain⟨u,_,hr⟩:=hinv.cell i y j x hy hx;rw[bw hex,q1]at hr;cases x with
   |l e2 ys=>
    rcases hr with ⟨h,_⟩|⟨m',h,_,hg⟩
    ·cases h
    ·cases h;exact⟨m,e2,ys,q1,q2,q3,hg,by rw[<-q2];exact hn⟩
   |i=>simp[uj]at hl
   |b=>simp[uj]at hl
   |s=>simp[uj]at hl
  have Sw:∀b,b<w.heap.size->(w.alloc (.cells vals el)).heap[b]? =w.heap[b]? :=λb hb=>heap_alloc_old w _ b hb;have mem:∀m x,(m,x)∈Ek L++[(nm,Obj.row el ex xs)]->(m∈L/\x= .dead)\/(m=nm/\x= .row el ex xs):=by
   intro m x hm;rcases bc.1 hm with hm|hm
   ·unfold Ek at hm;obtain⟨q,hq,h⟩:=cX.1 hm;cases h;exact .inl ⟨hq,rfl⟩
   ·rw[a_]at hm;cases hm;exact .inr ⟨rfl,rfl⟩
  have hws:oc L++(c_ nm,eO.o (.row el ex xs))::dw o (.v ak [.own nm])=ka (Ek L++[(nm,Obj.row el ex xs)])++dw o (.v ak [.own nm]):=by rw[BU];unfold ka;simp
  show gU P E σ a w c o (oc L++(c_ nm,eO.o (.row el ex xs))::dw o (.v ak [.own nm]));rw[hws];refine KE cf dJ hd (c':=c') (w':=w.alloc (.cells vals el)) (v:= .slice (ah (ad w.heap.size 0)) n n) hA ?_ ?_ ?_ ?_ (λ_ h=>h) (λ_ h=> .inl h) (λb hb=>jt (cf.lt b hb) (by simp)) (λb hb _=>Sw b hb) (by simp) rfl rfl rfl ?_ ?_ ?_
  ·intro m x hm;rcases mem m x hm with ⟨_,rfl⟩|⟨rfl,rfl⟩
   ·trivial
   ·refine⟨⟨te,h2,by rw[hP],hinv.sh⟩, ?_,λhex=> ?_⟩
    ·rw[hP,hG];refine⟨KU.symm,λhn=>(by cases hn),λ_=>⟨vals,nQ.alloc w _ el,cw _, ?_, ?_,λi y j x hy hx=> ?_⟩⟩
     ·show n<=2^63-1;have:n*1<=n*te.ks.length:=Nat.mul_le_mul_left _ kZ;omega
     ·rw[hinv.size,KU];simp
     ·obtain⟨u,r_,DE⟩:=hinv.cell i y j x hy hx;refine⟨u,by simpa using r_, ?_⟩
      split at DE
      ·rename_i hex;rw[bw hex];refine RQ cf (OP hex) rfl ?_ (λb hb _=>Sw b hb) DE;rw[<-hinv.sh y (aR hy),bJ,hx];rfl
      ·rename_i hex;rw[bG hex];exact DE.frame (λb hb=>Sw b (cf.lt b hb)) (λ_ h=>h)
    ·rw[hP,hG];refine⟨λi j hh hn _=> ?_,λi j i' j' hh AG hn kF hbk=> ?_⟩
     ·obtain⟨m',e2,ys,_,q2,_,q4,q5⟩:=inn i j hex hh hn;have:(c.P m').blk<w.heap.size:=wy.lt cf ⟨m',_,q4, .inl ⟨q5,rfl⟩⟩;rw[q2];show(c.P m').blk≠w.heap.size;omega
     ·obtain⟨m1,e1,y1,p1,p2,_,p4,p5⟩:=inn i j hex hh hn;obtain⟨m2,e2,y2,r1,r2,_,r4,r5⟩:=inn i' j' hex AG kF;rw[p2,r2]at hbk;have:=cf.sep m1 _ m2 _ _ p4 r4 (.inl ⟨p5,rfl⟩) (.inl ⟨r5,hbk⟩);subst this;exact hinv.inj i j i' j' m1 p1 r1
  ·intro m x b hm pN;rcases mem m x hm with ⟨_,rfl⟩|⟨rfl,rfl⟩
   ·exact pN.elim
   ·rcases pN with ⟨_,rfl⟩|⟨hex,i,j,hh,hn,rfl⟩
    ·rw[hP];exact⟨.inr (cw _),λhk=>by have:=cf.lt _ hk;exact cO this (bm _)⟩
    ·rw[hG]at hn⊢;obtain⟨m',e2,ys,_,q2,q3,q4,q5⟩:=inn i j hex hh hn;rw[q2];refine⟨.inl ⟨m',_,⟨.dead,bW _ (cX.2 ⟨m',q3,rfl⟩)⟩,q4, .inl ⟨q5,rfl⟩⟩,cf.kk m' _ _ q4 (.inl ⟨q5,rfl⟩)⟩
  ·intro m x m' x' b hm w_ pN Sg;rcases mem m x hm with ⟨_,rfl⟩|⟨rfl,rfl⟩
   ·exact pN.elim
   ·rcases mem m' x' w_ with ⟨_,rfl⟩|⟨rfl,rfl⟩
    ·exact Sg.elim
    ·rfl
  ·intro m zs hm;rcases mem m _ hm with ⟨_,h⟩|⟨_,h⟩<;>cases h
  ·show _=lO (c'.P nm);rw[hP];rfl
  ·intro m hm;have:m=nm:=by simpa [cJ,bN]using hm
   subst this;exact .inr ⟨_,bP _ (a_.2 rfl)⟩
  ·unfold execOp;rw[ho];exact iW hr
 ·simp at h
end
end Go.FG

namespace Go.FG
section
variable {P:cZ}
def lX(elem:TypeId)(size:aE)(base:az Addr)(sLen sCap:aE)(s x:bj)(aN:aW)(n:aE)(HY:Sem (dq bj)):Sem bj:=
 if sLen+n<=sCap then do
  let new<-HY
  if let ah a:=base then storeCells (a.add (sLen*size)) new.toList
  pure (.slice base (sLen+n) sCap)
 else do
  if((sLen+n:aE):ax)>ao.max/\(aN\/(<-typeInfo elem).bytes=0)then runtimePanic (.error "growslice: len out of range")
  if Hn (sLen+n) sCap*(<-typeInfo elem).bytes>2^48 then(if aN then runtimePanic (.error "growslice: len out of range")else do
   if !(<-Builtin.mayShare size sLen n base x)then mark .noRoom
   unsupported (.resourceLimit "append: a slice or a string whose bytes no memory bears"))
  let K6<-choose (.appendCap (sLen+n) sCap elem)
  askRoom (K6*(<-typeInfo elem).bytes)
  let old<-fy size sLen s
  let new<-HY
  let rest:=fP (<-zeroValue elem).cells (K6-(sLen+n))
  pure (.slice (ah (<-newRow elem (old++new++rest))) (sLen+n) K6)
theorem zA{w:bK}{t u ty el:aE}{inf:JZ}(hu:P.underlying t=ah (.slice el))(hi:P.info? el=ah inf)(hd:(∃e',P.underlying u=ah (.slice e'))\/P.underlying u=ah .string)
  {base:az Addr} {sLen sCap m:aE} {x:bj} (hl:(pq x).run P w= .ok m w):
  (iu #[t,u] ty #[.slice base sLen sCap,x]).run P w=(lX el inf.size base sLen sCap (.slice base sLen sCap) x ak m (fy inf.size m x)).run P w:=by
 have hs:(sizeOf el).run P w= .ok inf.size w:=by simp[sizeOf,typeInfo,hi]
 rcases hd with ⟨e',hd⟩|hd<;>
  (simp only[iu,h_,sj,dO,ch,run_underlying hu,run_underlying hd,bF,hs,cS,hl,du,if_false,bQ,if_true,false_or,m7]
   unfold lX
   simp only[m7,ch,du,if_false,false_or,cS]
   try rfl)
theorem CG{w:bK}{t u ty el:aE}{inf:JZ}(hu:P.underlying t=ah (.slice el))(hi:P.info? el=ah inf){k:nc}(hd:P.underlying u=ah (.int k))
  {base:az Addr} {sLen sCap m:aE} {x:bj} {k':nc} (hx:x= .int k' (m:ax)) (h1:m<=9223372036854775807) (h2:m*inf.bytes<=140737488355328):
  (iu #[t,u] ty #[.slice base sLen sCap,x]).run P w=(lX el inf.size base sLen sCap (.slice base sLen sCap) x ai m (if m*inf.size=0 then pure #[]else do pure (fP (<-zeroValue el).cells m))).run P w:=by
 have hs:(sizeOf el).run P w= .ok inf.size w:=by simp[sizeOf,typeInfo,hi]
 have ht:∀W,(typeInfo el).run P W= .ok inf W:=λW=>by simp[typeInfo,hi]
 have hw:ao.wrap (m:ax)=m:=by rw[pW];omega
 have c1:¬((m:ax)<0):=by omega
 have c2:¬((m:ax)*(inf.bytes:ax)>2^48):=by
  have a2:((m*inf.bytes:aE):ax)<=140737488355328:=by generalize m*inf.bytes=q at h2;omega
  rw[Wk]at a2;generalize (m:ax)*(inf.bytes:ax)=q at a2;have:(2:ax)^48=281474976710656:=by decide
  omega
 subst hx;have ha:(asInt (.int k' (m:ax))).run P w= .ok (m:ax) w:=by simp[asInt,asIntOf]
 simp only[iu,h_,sj,dO,ch,run_underlying hu,run_underlying hd,bF,hs,ht,ha,hw,c1,c2,cS,if_false,aY,du,if_true,m7,eQ];unfold lX;simp only[m7,ch,if_true,true_or,and_true,cS,ht,bF];try rfl
theorem DQ{w w':bK}{el size sLen sCap m:aE}{a:Addr}{s x:bj}{zs:aW}{app:Sem (dq bj)}{news:aC bj}(ha:app.run P w= .ok news.toArray w)(h:sLen+m<=sCap)(KR:(storeCells (a.add (sLen*size)) news).run P w= .ok () w'):
  (lX el size (ah a) sLen sCap s x zs m app).run P w= .ok (.slice (ah a) (sLen+m) sCap) w':=by unfold lX;rw[bw h];simp only[ch,ha,bF,KR,cS]
theorem DP{w:bK}{el size sCap:aE}{s x:bj}{zs:aW}{app:Sem (dq bj)}{news:aC bj}(ha:app.run P w= .ok news.toArray w):
  (lX el size aj 0 sCap s x zs 0 app).run P w= .ok (.slice aj 0 sCap) w:=by unfold lX;rw[bw (bB _)];simp only[ch,ha,bF,cS]
theorem DO{w:bK}{el size sLen sCap m:aE}{base:az Addr}{s x:bj}{zs:aW}{app:Sem (dq bj)}{pf news:aC bj}{inf:JZ}{z:bj}(hi:P.info? el=ah inf)(hz:inf.zero=ah z)
  (h:¬sLen+m<=sCap) (h63:sLen+m<=9223372036854775807) (h48:(sLen+m)*inf.bytes<=140737488355328)
  (ho:(fy size sLen s).run P w.drew= .ok pf.toArray w.drew) (ha:app.run P w.drew= .ok news.toArray w.drew):
  (lX el size base sLen sCap s x zs m app).run P w= .ok (.slice (ah (ad w.heap.size 0)) (sLen+m) (grownCap w (sLen+m) sCap el))
   (w.drew.alloc (.cells (pf.toArray++news.toArray++fP z.cells (grownCap w (sLen+m) sCap el-(sLen+m))) el)):=by
 have ht:∀W,(typeInfo el).run P W= .ok inf W:=λW=>by simp[typeInfo,hi]
 have hzv:∀W,(zeroValue el).run P W= .ok z W:=λW=>by simp[zeroValue,typeInfo,hi,hz]
 have c1:¬(((sLen+m:aE):ax)>ao.max/\(zs=ai\/inf.bytes=0)):=by
  have:ao.max=9223372036854775807:=by decide
  rintro ⟨h,_⟩;omega
 have c2:¬(Hn (sLen+m) sCap*inf.bytes>2^48):=by
  have:=growslice_fits (need:=sLen+m) (old:=sCap) (bytes:=inf.bytes) (by omega) h48;have e:2^48=281474976710656:=by decide
  omega
 have VQ:(choose (.appendCap (sLen+m) sCap el)).run P w= .ok (grownCap w (sLen+m) sCap el) w.drew:=by rw[run_choose_drew];rfl
 have ari:∀n W,(askRoom n).run P W= .ok () W:=λn W=>by simp only[askRoom];split<;>simp
 have zm:∀cs,(newRow el cs).run P w.drew= .ok (ad w.heap.size 0) (w.drew.alloc (.cells cs el)):=λcs=>by simp only[newRow,newObj,ch,ng,bF,cS];rfl
 unfold lX;rw[bG h];simp only[ch,ht,bF,c1,c2,if_false,VQ,ari,ho,ha,hzv,zm,cS,m7]
structure App (P:cZ) (w:bK) (u:aE) (x:bj) (z:dq bj) (sz m:aE) (news:aC bj):Prop where
 h:(((∃e',P.underlying u=ah (.slice e'))\/P.underlying u=ah .string)/\(pq x).run P w= .ok m w/\(fy sz m x).run P w= .ok news.toArray w/\(fy sz m x).run P w.drew= .ok news.toArray w.drew)\/
  ((∃k,P.underlying u=ah (.int k))/\(∃k',x= .int k' (m:ax))/\news=(fP z m).toList)
 len:news.length=m*sz
 one:∀v∈news,v.oneCell'=ai
structure adu (w w':bK) (p p':Pl) (m:aE) (news:aC bj):Prop where
 n:p'.n=p.n+m
 sz:p'.sz=p.sz
 nil:p'.nil=ai->p'.cap=0/\p.n=0/\m=0
 mem:p'.nil=ak->∃i9,nQ w' p'.blk i9/\p'.n<=p'.cap/\p'.cap<=maxLen/\p'.off+p'.cap*p'.sz<=i9.size/\
  (∀k u,k<p.n*p.sz->w.cell? (ad p.blk (p.off+k))=ah u->i9[p'.off+k]? =ah u)/\(∀k,k<m*p.sz->i9[p'.off+p.n*p.sz+k]? =news[k]?)
 blk:p'.nil=ak->(p.nil=ak/\p'.blk=p.blk)\/p'.blk=w.heap.size
 old:∀b,b<w.heap.size->(p'.nil=ak->b≠p'.blk)->w'.heap[b]? =w.heap[b]?
 size:w.heap.size<=w'.heap.size
 os:w'.os=w.os
 tape:w'.tape=w.tape
 output:w'.output=w.output
theorem tI{w:bK}{t u ty el:aE}{inf:JZ}{z:bj}{p:Pl}{x:bj}{m:aE}{news:aC bj}(hu:P.underlying t=ah (.slice el))(hi:P.info? el=ah inf)(hz:inf.zero=ah z)(P7:z.cells.size=p.sz)(gi:inf.size=p.sz)
  (jv:p.nil=ai->p.n=0) (aeA:p.nil=ak->∃vals,nQ w p.blk vals/\p.n<=p.cap/\p.cap<=maxLen/\p.off+p.cap*p.sz<=vals.size)
  (hx:App P w u x z.cells p.sz m news) (h1:(p.n+m)*inf.bytes<=140737488355328) (h2:p.n+m<=9223372036854775807):
  ∃p' w',(iu #[t,u] ty #[lO p,x]).run P w= .ok (lO p') w'/\adu w w' p p' m news:=by
 have hmb:m*inf.bytes<=140737488355328:=dg (bZ _ (by omega)) h1;have hzv:∀W,(zeroValue el).run P W= .ok z W:=λW=>by simp[zeroValue,typeInfo,hi,hz]
 have hml:p.n+m<=maxLen:=by simp only[maxLen];omega
 have tail:∀(base:az Addr) (sLen sCap:aE),∃(zs:aW) (app:Sem (dq bj)),(iu #[t,u] ty #[.slice base sLen sCap,x]).run P w=(lX el p.sz base sLen sCap (.slice base sLen sCap) x zs m app).run P w/\
   app.run P w= .ok news.toArray w/\app.run P w.drew= .ok news.toArray w.drew:=by
  intro base sLen sCap
  rcases hx.h with ⟨hd,hl,hf,hf2⟩|⟨⟨k,hk⟩,⟨k',hxv⟩,hn⟩
  ·have:=zA (P:=P) (w:=w) (ty:=ty) hu hi hd (base:=base) (sLen:=sLen) (sCap:=sCap) hl;rw[gi]at this;exact⟨_,_,this,hf,hf2⟩
  ·have:=CG (P:=P) (w:=w) (ty:=ty) hu hi hk (base:=base) (sLen:=sLen) (sCap:=sCap) hxv (by omega) hmb;rw[gi]at this;refine⟨_,_,this, ?_, ?_⟩
   ·rw[hn];split
    ·rename_i h0;have:fP z.cells m= #[]:=Ad (by rw[size_zeroCells,P7,h0]);rw[this];rfl
    ·simp only[ch,hzv,bF,cS,tU]
   ·rw[hn];split
    ·rename_i h0;have:fP z.cells m= #[]:=Ad (by rw[size_zeroCells,P7,h0]);rw[this];rfl
    ·simp only[ch,hzv,bF,cS,tU]
 have grow:∀(base:az Addr) (sCap:aE) (pf:aC bj) (zs:aW) (app:Sem (dq bj)),¬p.n+m<=sCap->pf.length=p.n*p.sz->(∀k u,k<p.n*p.sz->w.cell? (ad p.blk (p.off+k))=ah u->pf[k]? =ah u)->
   (fy p.sz p.n (.slice base p.n sCap)).run P w.drew= .ok pf.toArray w.drew->app.run P w.drew= .ok news.toArray w.drew->
   ∃p' w',(lX el p.sz base p.n sCap (.slice base p.n sCap) x zs m app).run P w= .ok (lO p') w'/\adu w w' p p' m news:=by
  intro base sCap pf zs app hc EA OX hf ha
  have hr:=DO (P:=P) (w:=w) (size:=p.sz) (zs:=zs) (x:=x) (base:=base) hi hz hc h2 h1 hf ha
  refine⟨⟨ak,w.heap.size,0,grownCap w (p.n+m) sCap el,p.n+m,p.sz⟩,_,hr,⟨rfl,rfl,λh=>(by cases h),λ_=> ?_,λ_=> .inr rfl,λb hb _=>heap_alloc_old w.drew _ b hb,by simp,rfl,rfl,rfl⟩⟩
  have hge:=grownCap_ge w (p.n+m) sCap el
  refine⟨_,⟨_,_,heap_alloc_new w.drew _,λq _=>by simp⟩,hge,grownCap_le_maxLen w _ _ _ hml, ?_,λk u hk r_=> ?_,λk hk=> ?_⟩
  ·simp only[Array.size_append,VE,size_zeroCells,P7,EA,hx.len,<-dp,bS];exact bZ _ (by omega)
  ·rw[bS,N_,DT (by simpa [EA]using hk),h_];exact OX k u hk r_
  ·rw[bS,N_,Array.getElem?_append_right (by simp[EA]),DT (by simp[EA,hx.len];omega),h_];congr 1;simp[EA]
 cases hq:p.nil with
 |true=>
  have hn:=jv hq;rw[nB hq];obtain⟨zs,app,hr,ha,ha2⟩:=tail aj 0 0;rw[hr];by_cases hm:m=0
  ·subst hm;refine⟨⟨ai,0,0,0,0,p.sz⟩,w,DP ha,⟨by simp[hn],rfl,λ_=>⟨rfl,hn,rfl⟩,λh=>(by cases h),λh=>(by cases h),λ_ _ _=>rfl,cw _,rfl,rfl,rfl⟩⟩
  ·have:=grow aj 0 [] zs app (by omega) (by simp[hn]) (λk u hk=>by rw[hn]at hk;simp at hk) (by rw[hn];exact run_firstCells_none _ _ _ _ _) ha2;rwa[hn]at this
 |false=>
  rw[e6 hq];obtain⟨vals,hb,Sj,W2,mD⟩:=aeA hq;obtain⟨zs,app,hr,ha,ha2⟩:=tail (ah (ad p.blk p.off)) p.n p.cap;rw[hr];have hle:p.n*p.sz<=p.cap*p.sz:=bZ _ Sj;by_cases hc:p.n+m<=p.cap
  ·have ve:p.off+p.n*p.sz+news.length<=vals.size:=by have:(p.n+m)*p.sz<=p.cap*p.sz:=bZ _ hc;rw[dp]at this;rw[hx.len];omega
   have KR:=nD (P:=P) w hb ve hx.one;have hrr:=DQ (P:=P) (s:= .slice (ah (ad p.blk p.off)) p.n p.cap) (x:=x) (el:=el) (size:=p.sz) (zs:=zs) ha hc (by rw[Addr.nV];exact KR);refine⟨⟨ak,p.blk,p.off,p.cap,p.n+m,p.sz⟩,_,hrr,⟨rfl,rfl,λh=>(by cases h),λ_=>⟨_,hb.setRow (e8 ve),hc,W2,by rw[e8 ve];exact mD,λk u hk r_=> ?_,λk hk=> ?_⟩,λ_=> .inl ⟨hq,rfl⟩,λb _ P3=>setRow_other w _ b _ (P3 rfl),by simp[lC],rfl,rfl,rfl⟩⟩
   ·show(ed vals (p.off+p.n*p.sz) news)[p.off+k]? =ah u;rw[gu ve,bG (by omega),<-hb.cell];exact r_
   ·show(ed vals (p.off+p.n*p.sz) news)[p.off+p.n*p.sz+k]? =news[k]?;rw[gu ve,bw (by rw[hx.len];omega)];congr 1;omega
  ·have hcell:∀k,k<p.n*p.sz->w.cell? (ad p.blk (p.off+k))=vals[p.off+k]? :=λk _=>hb.cell _;let pf:=(vals.toList.drop p.off).take (p.n*p.sz);have EA:pf.length=p.n*p.sz:=by simp only[pf,eJ,iA,dS];omega
   have OX:∀k u,k<p.n*p.sz->w.cell? (ad p.blk (p.off+k))=ah u->pf[k]? =ah u:=λk u hk r_=>by rw[hcell k hk]at r_;simp only[pf,d_,bw hk,dR,cW,r_]
   refine grow (ah (ad p.blk p.off)) p.cap pf zs app hc EA OX ?_ ha2;refine run_firstCells_some w.drew p.sz p.n _ _ _ pf EA (λj v hj=> ?_);have jW:j<p.n*p.sz:=by rw[<-EA];exact(aT.1 hj).1
   simp only[pf,d_,bw jW,dR,cW]at hj;rw[Addr.nV];have:=hcell j jW;rw[hj]at this;simpa using this
end
end Go.FG

