/- An evaluator for the part of the language that this program uses, proved sound over the model: states told as values and lists; what an evaluation tells, the call does. No condition. -/
import Derived.Calls
import Derived.Orders
import Derived.Below
import Derived.Laws.AppendOwn
import Derived.Laws.Slices
import Derived.Laws.StructEq
import Derived.Laws.Tables
import Derived.Laws.MakeOwn
import Derived.Laws.IdiomStrings
import Derived.Laws.BytesArg
import Derived.Laws.NewFold
import Derived.SizedLaws
import Derived.Carry
import Derived.ProofKit
import Derived.KernelRfl
import Derived.Laws.Strings
set_option linter.unusedVariables false
set_option linter.unusedSimpArgs false
set_option maxRecDepth 100000
open Array renaming getElem?_eq_some_iff->dL,getD_eq_getD_getElem?->ej,getElem?_setIfInBounds->nF,toArray_toList->sZ,getElem?_toList->cF,ext'->rF,length_toList->dm,toList_map->zh,getElem?_map->Ms,getElem?_extract->dS,eq_empty_of_size_eq_zero->zg,append_assoc->Mr,getElem?_append_left->CU
open BitVec renaming ofInt->b9
open Bool renaming false->ak,true->ai,false_eq_true->dg,and_eq_true->aJ,not_eq_true'->dz,and_assoc->mZ,or_eq_false_iff->ij,not_false->bV,not_true->aY
open ByteArray renaming size_extract->wG,size_append->dv,empty->F2,size->gj
open Go renaming IntKind->mG,World->bD,Value->bf,Operand->da,Oper->eV,Program->cM,TypeInfo->ID
open Go.Act renaming put->Tm,eval->Gk
open Go.Builtin renaming len_->vj,max2->C1,min2->C2,clear_->n6,zeroCells->fu,nextslicecap->F7,firstCells->eU,lenOf->oO,append_->gZ
open Go.Instr renaming loadAt->wW,sureAddr->tI,storeAt->Uc,fieldAt->Ua,indexAt->Ub,sliceBound->qk,sliceBounds->mn,sliceAt->pL,fill->oP,buildSlice->yP
open Go.IntKind renaming i64->ao,wrap_i64->py
open Go.Op renaming bytesLess->b_
open Go.Oper renaming wp->Mw
open Go.Region renaming binds->l8
open Go.Result renaming andThen_ok->bA
open Go.Sem renaming run_bind->ca,run_pure->cG,run->mH,run_ite->mE
open Go.World renaming frozen?->XD,cell?_of_block->tJ,setRow->iZ
open Int renaming toNat_natCast->dU,le_refl->Gm,natCast_mul->Ud
open List renaming replicate->uI,mem_cons_of_mem->cU,mem_cons->cz,mem_cons_self->dA,mem_flatMap->bG,mem_of_getElem?->aP,append_nil->dN,length_nil->jo,getElem?_toArray->gV,append_assoc->ch,getElem?_append_left->dr,getElem?_take->dR,getElem?_append_right->cX,getElem?_drop->dJ,length_eq_one_iff->gG,getElem?_cons_succ->dD,getD->jH,getElem?_map->bF,getElem_mem->bC,mem_map->cO,all_eq_true->bu,range->cJ,getElem?_range->uH,getElem?_eq_none->km,getElem?_eq_some_iff->aT,mem_of_mem_drop->kT,mem_of_mem_take->kq,getElem?_of_mem->bX,map_toArray->Cj,map_cons->eW,map_nil->Av,ext_getElem?->Ts,eq_nil_of_length_eq_zero->fV,mem_append->a_,length_cons->cY,foldl_cons->Ci,map_map->lH,map_congr_left->NS,size_toArray->Tv,length_map->bN,getD_eq_getElem?_getD->cL,getElem?_set->NR,all_cons->sb,head?_drop->X1,length_take->er,length_drop->eL,length_singleton->bB,mem_append_left->bU,mem_append_right->bK,nodup_append->dY,length_set->cm,mem_or_eq_of_mem_set->je,nodup_cons->jY,nil_append->gi,mem_singleton->aX,getElem?_cons_zero->rG
open List.cons renaming injEq->X0
open Nat renaming beq->bn,blt->pO,ble->e9,le_refl->cu,le_trans->c6,lt_of_lt_of_le->ig,eq_of_beq_eq_true->aR,add_zero->wY,add_assoc->lB,le_of_ble_eq_true->cD,add_mul->c7,zero_le->bz,mul_le_mul_right->bY,eq_zero_or_pos->B5,div_lt_iff_lt_mul->wJ,mod_lt->B6,div_add_mod->Ic,mul_comm->C5,zero_add->bT,lt_or_gt_of_ne->NU,add_comm->iN,sub_zero->Cm,lt_irrefl->bm
open Option renaming some->ah,none->aj,map_some->h_,getD_some->wZ
open Option.some renaming inj->aD,injEq->jg
open Prod.mk renaming inj->bS,injEq->iU
open UInt8 renaming ofNat->aw
open _root_ renaming Nat->aE,Int->az,Bool->aW,ByteArray->aq,List->ay,Option->aC,Array->c_,if_pos->bw,if_neg->bH,absurd->cE,cond_true->au,cond_false->aA,decide_eq_true_eq->bc,of_decide_eq_true->cg,congrArg->kX
namespace Go.FG
inductive Ck where
 |i (k:mG)|b|s|l (e:aE)|o
inductive CV where
 |i (k:mG) (n:az)|b (x:aW)|s (x:aq)|l (e:aE) (xs:ay (ay CV))
abbrev aU:=ay (ay CV)
def CV.kd:CV->Ck
 | .i k _=> .i k| .b _=> .b| .s _=> .s| .l e _=> .l e
def bZ:CV->az| .i _ n=>n|_=>0
def cvB:CV->aW| .b x=>x|_=>ak
def bQ:CV->aq| .s x=>x|_=>⟨#[]⟩
def iD:CV->aU| .l _ xs=>xs|_=>[]
def ar(xs:aU)(i j:aE):CV:=(xs.getD i []).getD j (.b ak)
inductive AV where
 |i (k:mG) (n:az)|b (x:aW)|s (x:aq)
 |sh (e:aE) (xs:aU)
 |nl
 |own (nm:aE)
 |vw (nm lo hi:aE)
 |bp (nm j:aE)
 |rp (nm i j:aE)
 |sp (e:aE) (xs:aU) (i j:aE)
 |inn (nm i j:aE)
 |ip (nm i j i2 j2:aE)
 |iv (nm i j lo hi:aE)
 |fn (f:aE) (iC:ay (ay CV))
 |fp (xs:ay CV) (j:aE)
inductive SV where
 |v (agg:aW) (xs:ay AV)|jE (xs:ay (aW×ay AV))|un
inductive Obj where
 |box (xs:ay AV)|nB (xs:ay CV)|row (e:aE) (ex:aW) (xs:aU)|fE (e:aE) (xs:aU)|dead
inductive eA where
 |v (x:SV)|o (x:Obj)|jq
def vl(n:aE):aW:=bn (n%1000) 999&&pO n 900000000
abbrev St:=aE->eA
def oe(s:St)(k:aE)(c:eA):St:=λn=>bif bn n k then c else s n
def wr(s:St):ay (aE×eA)->St
 |[]=>s
 |(k,c)::r=>wr (oe s k c) r
def pJ(n:aE):aE:=2*n
def cR(n:aE):aE:=2*n+1
inductive Rd (α:Type) where
 |ret (a:α)|fail|get (k:aE) (f:eA->Rd α)
def Rd.bind{α β:Type}:Rd α->(α->Rd β)->Rd β
 | .ret a,f=>f a
 | .fail,_=> .fail
 | .get k g,f=> .get k λc=>(g c).bind f
def Rd.run{α:Type}:Rd α->St->ay aE->aC (α×ay aE)
 | .ret a,_,l=>ah (a,l)
 | .fail,_,_=>aj
 | .get k f,s,l=>(f (s k)).run s (k::l)
structure TI where
 agg:aW
 ks:ay Ck
 bytes:aE
inductive AA where
 |i (k:mG) (n:az)|b (x:aW)|s (x:aq)|sh (e:aE) (xs:aU)|nl
 |ow (e:aE) (ex:aW) (xs:aU)|kp (xs:aU)|fn (f:aE) (iC:ay (ay CV))
inductive eQ where
 |v (agg:aW) (xs:ay AA)|pt (xs:ay AA)|fb (xs:ay CV)
structure dE where
 rs:ay eQ
 outs:ay (ay AA)
structure abd where
 f:bD->(aE->Prop)->Prop
 fr:∀{w w':bD} {K K':aE->Prop},f w K->(∀b,K b->w'.heap[b]? =w.heap[b]?)->(∀b,K b->K' b)->f w' K'
def abd.jq:abd:=⟨λ_ _=>True,λ_ _ _=>trivial⟩
structure Tab where
 ty:aE->aC TI
 fo:aE->aE->aC (aE×aE)
 eqs:ay aE
 Qg:aE->aE->aW:=λ_ _=>ak
 gp:abd:= .jq
inductive Om where
 |nat|own (e:aE)|sh (e:aE)
structure fm extends Tab where
 call:aE->ay eQ->aC (aW×dE)
 om:aE->aE->Om
 mode:aE->aE->aW
 keep:aE->ay aE
 tk:aE->aW
instance:Coe fm Tab:=⟨fm.toTab⟩
structure rW where
 cond:aW
 ws:ay (aE×eA)
def lX(n:aE):ay aE->aW
 |[]=>ak|m::r=>bn n m||lX n r
def cst:bf->SV
 | .int k n=> .v ak [.i k n]| .bool x=> .v ak [.b x]| .string x=>bif e9 x.size 4611686018427387904 then .v ak [.s x]else .un
 | .slice aj 0 0=> .v ak [.nl]
 |_=> .un
def Fu(x:da):Rd SV:=
 match x with
 | .tmp t=> .get (pJ t) λ| .v x=> .ret x|_=> .ret .un
 | .const v=> .ret (cst v)
 | .func f=> .ret (.v ak [.fn f []])
 | .global _=> .fail
def i_(nm:aE):Rd Obj:= .get (cR nm) λ| .o x=> .ret x|_=> .fail
def fresh(nm:aE):Rd Unit:= .get (cR nm) λ| .jq=>bif e9 nm 899999999 then .ret ()else .fail|_=> .fail
def qU(x:da):Rd AV:=(Fu x).bind λ| .v ak [a]=> .ret a|_=> .fail
def Bu(x:da):Rd (mG×az):=(qU x).bind λ| .i k n=> .ret (k,n)|_=> .fail
def dw(o:eV)(v:SV):ay (aE×eA):=match o.dst with|some d=>[(pJ d, .v v)]|none=>[]
def val(o:eV)(v:SV):Rd rW:= .ret ⟨ai,dw o v⟩
def yJ(o:eV)(v:AV):Rd rW:=val o (.v ak [v])
def Kg(o:eV)(c:aW)(v:AV):Rd rW:= .ret ⟨c,dw o (.v ak [v])⟩
def q_(E:fm)(t:aE):Rd TI:=match E.ty t with|some i=> .ret i|none=> .fail
def pf(E:fm)(t:aE):Rd Ck:=(q_ E t).bind λti=>match ti.agg,ti.ks with|false,[k]=> .ret k|_,_=> .fail
def B0:Ck->AV
 | .i k=> .i k 0| .b=> .b ak| .s=> .s ⟨#[]⟩| .l _=> .nl| .o=> .nl
def yM:Ck->CV
 | .i k=> .i k 0| .b=> .b ak| .s=> .s ⟨#[]⟩| .l e=> .l e []| .o=> .b ak
def JN(ks:ay Ck):aW:=ks.all λ| .o=>ak|_=>ai
def dec:Ck->CV->AV
 | .i k,x=> .i k (bZ x)| .b,x=> .b (cvB x)| .s,x=> .s (bQ x)| .l e,x=> .sh e (iD x)| .o,_=> .nl
def tT(xs:aU)(i:aE):aE->ay Ck->ay AV
 |_,[]=>[]
 |j,k::ks=>dec k (ar xs i j)::tT xs i (j+1) ks
def zC(nm:aE)(xs:aU)(i:aE):aE->ay Ck->ay AV
 |_,[]=>[]
 |j, .l _::ks=> .inn nm i j::zC nm xs i (j+1) ks
 |j,k::ks=>dec k (ar xs i j)::zC nm xs i (j+1) ks
def WG:CV->AV
 | .i k n=> .i k n| .b x=> .b x| .s x=> .s x| .l e xs=> .sh e xs
def jb{α:Type}(xs:ay α)(j:aE)(ys:ay α):ay α:=xs.take j++ys++xs.drop (j+ys.length)
def dV(xs:aU)(i j:aE)(ys:ay CV):aU:=xs.set i (jb (xs.getD i []) j ys)
def awx(agg:aW)(xs:ay AV):SV:= .v agg xs
def eu(xs:aU)(lo hi:aE):aU:=(xs.drop lo).take (hi-lo)
def plain(ks:ay Ck):aW:=ks.all λ| .i _=>ai| .b=>ai| .s=>ai|_=>ak
def ckB:Ck->Ck->aW
 | .i a, .i b=>decide (a=b)| .b, .b=>ai| .s, .s=>ai| .l a, .l b=>bn a b| .o, .o=>ai|_,_=>ak
def pF:ay Ck->ay Ck->aW
 |[],[]=>ai|x::l,y::r=>ckB x y&&pF l r|_,_=>ak
def GW(ex:aW)(k:Ck)(a:AV):Rd (CV×ay (aE×eA)):=
 match k,a with
 | .i k, .i k' n=>if k=k' then .ret (.i k n,[])else .fail
 | .b, .b x=> .ret (.b x,[])
 | .s, .s x=> .ret (.s x,[])
 | .l e, .nl=> .ret (.l e [],[])
 | .l e, .sh e' xs=>bif bn e e'&& !ex then .ret (.l e xs,[])else .fail
 | .l e, .own nm=>(i_ nm).bind λ
  | .row e' tc xs=>bif bn e e'&&tc then(bif ex then .ret (.l e xs,[(cR nm, .o .dead)])else .fail)else .fail
  | .fE e' xs=>bif bn e e'&& !ex then .ret (.l e xs,[])else .fail
  |_=> .fail
 |_,_=> .fail
def x_(ex:aW):ay Ck->ay AV->Rd (ay CV×ay (aE×eA))
 |[],[]=> .ret ([],[])
 |k::ks,a::r=>(GW ex k a).bind λ(c,w)=>(x_ ex ks r).bind λ(cs,ws)=> .ret (c::cs,w++ws)
 |_,_=> .fail
def afy:ay AV->aW
 |[]=>ai
 | .sh _ _::_=>ak
 |_::r=>afy r
end Go.FG

namespace Go.FG
def abu(op:BinOp)(k:mG)(a b:az):aC (aW×AV):=
 match op with
 | .add=>ah (ai, .i k (k.wrap (a+b)))
 | .sub=>ah (ai, .i k (k.wrap (a-b)))
 | .mul=>ah (ai, .i k (k.wrap (a*b)))
 | .quo=>ah (!(b==0), .i k (k.wrap (a.tdiv b)))
 | .rem=>ah (!(b==0), .i k (a.tmod b))
 | .and=>ah (ai, .i k (k.wrap (b9 k.bits a&&&b9 k.bits b).toNat))
 | .or=>ah (ai, .i k (k.wrap (b9 k.bits a|||BitVec.ofInt k.bits b).toNat))
 | .xor=>ah (ai, .i k (k.wrap (b9 k.bits a^^^b9 k.bits b).toNat))
 | .eql=>ah (ai, .b (a==b))
 | .neq=>ah (ai, .b (a !=b))
 | .lss=>ah (ai, .b (decide (a<b)))
 | .leq=>ah (ai, .b (decide (a<=b)))
 | .gtr=>ah (ai, .b (decide (a>b)))
 | .geq=>ah (ai, .b (decide (a≥b)))
 |_=>aj
def abw(op:BinOp)(a b:aq):aC (aW×AV):=
 match op with
 | .add=>ah (decide (a.size+b.size<=4611686018427387904), .s (a++b))
 | .eql=>ah (ai, .b (a.toList==b.toList))
 | .neq=>ah (ai, .b (!(a.toList==b.toList)))
 | .lss=>ah (ai, .b (b_ a.toList b.toList))
 | .leq=>ah (ai, .b (b_ a.toList b.toList||a.toList==b.toList))
 | .gtr=>ah (ai, .b (!(b_ a.toList b.toList||a.toList==b.toList)))
 | .geq=>ah (ai, .b (!(b_ a.toList b.toList)))
 |_=>aj
def UI:ay AV->ay AV->aC aW
 |[],[]=>ah ai
 | .i k a::l, .i k' b::r=>if k=k' then(match UI l r with|some t=>ah ((a==b)&&t)|none=>aj)else aj
 | .b a::l, .b b::r=>match UI l r with|some t=>ah ((a==b)&&t)|none=>aj
 | .s a::l, .s b::r=>match UI l r with|some t=>ah ((a.toList==b.toList)&&t)|none=>aj
 |_,_=>aj
def Fh:AV->Ck
 | .i k _=> .i k| .b _=> .b| .s _=> .s|_=> .o
def IW(op:BinOp)(k:Ck):AV->AV->aC (aW×AV)
 | .i k a, .i k' b=>if k=k' then abu op k a b else aj
 | .s a, .s b=>abw op a b
 | .b a, .b b=>match op,k with| .eql, .b=>ah (ai, .b (a==b))| .neq, .b=>ah (ai, .b (!(a==b)))|_,_=>aj
 |_,_=>aj
def shV(op:BinOp):AV->AV->aC (aW×AV)
 | .i k a, .i _ b=>match op with
  | .shl=>ah (decide (0<=b), .i k (k.wrap (a*2^(min b.toNat k.bits))))
  | .shr=>ah (decide (0<=b), .i k (a.fdiv (2^(min b.toNat k.bits))))
  |_=>aj
 |_,_=>aj
def Na:BinOp->aW| .shl=>ai| .shr=>ai|_=>ak
def isEq:BinOp->aW| .eql=>ai| .neq=>ai|_=>ak
def RF{α:Type}:aC α->Rd α|some a=> .ret a|none=> .fail
def abv(E:fm)(t:aE)(op:BinOp)(x y:SV):Rd (aW×AV):=
 match x,y with
 | .v ak [a], .v ak [b]=>bif Na op then RF (shV op a b)else(pf E t).bind λk=>RF (IW op k a b)
 | .v ai xs, .v ai ys=>(q_ E t).bind λti=>
   bif isEq op&&lX t E.eqs&&pF (xs.map Fh) ti.ks&&pF (ys.map Fh) ti.ks&&plain ti.ks then RF (match UI xs ys with|some r=>ah (ai,AV.b (match op with| .eql=>r|_=> !r))|none=>aj)else .fail
 |_,_=> .fail
def K_:ay AV->ay (aE×ay AV)->ay AV
 |z,[]=>z
 |z,(j,ys)::r=>K_ (jb z j ys) r
def Fv(E:fm)(t:aE):ay (aE×da)->Rd (ay (aE×ay AV))
 |[]=> .ret []
 |(f,x)::r=>(Fu x).bind λ
  | .v _ ys=>match E.fo t f with
   |some (o,n)=>bif bn ys.length n then(Fv E t r).bind λl=> .ret ((o,ys)::l)else .fail
   |none=> .fail
  |_=> .fail
def lS(E:fm)(a:AV):Rd (aE×aU):=
 match a with
 | .sh e xs=> .ret (e,xs)
 | .own nm=>(i_ nm).bind λ| .row e _ xs=> .ret (e,xs)| .fE e xs=> .ret (e,xs)|_=> .fail
 | .vw nm lo hi=>(i_ nm).bind λ| .row e _ xs=> .ret (e,eu xs lo hi)| .fE e xs=> .ret (e,eu xs lo hi)|_=> .fail
 | .inn nm i j=>(i_ nm).bind λ
  | .row e ai xs=>(q_ E e).bind λti=>match ti.ks[j]? with|some (.l e2)=> .ret (e2,iD (ar xs i j))|_=> .fail
  |_=> .fail
 |_=> .fail
def acE(E:fm)(k:Ck)(a:AV):Rd az:=
 match k,a with
 | .s, .s x=> .ret x.size
 | .l _, .nl=> .ret 0
 | .l _, .vw nm lo hi=>(i_ nm).bind λ| .row _ _ _=> .ret ((hi-lo:aE):az)| .fE _ _=> .ret ((hi-lo:aE):az)|_=> .fail
 | .l _,a=>(lS E a).bind λ(_,xs)=> .ret xs.length
 |_,_=> .fail
def Jb(ex:aW)(ks:ay Ck):ay (aE×da)->aU->Rd (aU×ay (aE×eA))
 |[],z=> .ret (z,[])
 |(i,x)::r,z=>(Fu x).bind λ
  | .v _ ys=>bif e9 (i+1) z.length then(x_ ex ks ys).bind λ(cs,w)=>(Jb ex ks r (z.set i cs)).bind λ(z,ws)=> .ret (z,w++ws)else .fail
  |_=> .fail
def K5:ay (aE×da)->Rd aW
 |[]=> .ret ai
 |(_,x)::r=>(Fu x).bind λ
  | .v _ ys=>(K5 r).bind λb=> .ret (afy ys&&b)
  |_=> .fail
def aN(ks:ay Ck)(n:aE):aU:=uI n (ks.map yM)
def bytesOf(xs:aU):aq:=⟨(xs.map λy=>aw (bZ (y.getD 0 (.b ak))).toNat).toArray⟩
def qc(s:aq):aU:=s.data.toList.map λb=>[.i .u8 (b.toNat:az)]
def u8s:ay Ck->aW|[.i .u8]=>ai|_=>ak
def flat(E:fm)(ks:ay Ck):aW:=ks.all λ
 | .l e=>match E.ty e with|some ti=>plain ti.ks|none=>ak
 |_=>ai
def cB(n:aE)(bytes:aE):aW:=decide (n*bytes<=140737488355328)&&decide (n<=9223372036854775807)
def rB(E:fm)(ti:TI)(p:AV):Rd (ay AV):=
 match p with
 | .bp nm j=>(i_ nm).bind λ
  | .box xs=>bif e9 (j+ti.ks.length) xs.length then .ret ((xs.drop j).take ti.ks.length)else .fail
  | .nB xs=>bif e9 (j+ti.ks.length) xs.length then .ret (((xs.drop j).take ti.ks.length).map WG)else .fail
  |_=> .fail
 | .fp xs j=>bif e9 (j+ti.ks.length) xs.length then .ret (((xs.drop j).take ti.ks.length).map WG)else .fail
 | .sp e xs i j=>(q_ E e).bind λte=>bif pF ((te.ks.drop j).take ti.ks.length) ti.ks then .ret (tT xs i j ti.ks)else .fail
 | .rp nm i j=>(i_ nm).bind λ
  | .row e ex xs=>(q_ E e).bind λte=>bif pF ((te.ks.drop j).take ti.ks.length) ti.ks then(bif ex&&vl nm then(bif plain ti.ks then .ret (tT xs i j ti.ks)else .fail)else .ret (bif ex then zC nm xs i j ti.ks else tT xs i j ti.ks))else .fail
  | .fE e xs=>(q_ E e).bind λte=>bif pF ((te.ks.drop j).take ti.ks.length) ti.ks then .ret (tT xs i j ti.ks)else .fail
  |_=> .fail
 | .ip nm i j i2 j2=>(i_ nm).bind λ
  | .row e ai xs=>(q_ E e).bind λte=>match te.ks[j]? with
   |some (.l e2)=>(q_ E e2).bind λt2=>bif pF ((t2.ks.drop j2).take ti.ks.length) ti.ks then .ret (tT (iD (ar xs i j)) i2 j2 ti.ks)else .fail
   |_=> .fail
  |_=> .fail
 |_=> .fail
def FN(E:fm)(p:AV)(ys:ay AV):Rd (ay (aE×eA)):=
 match p with
 | .bp nm j=>(i_ nm).bind λ
  | .box xs=>bif e9 (j+ys.length) xs.length then .ret [(cR nm, .o (.box (jb xs j ys)))]else .fail
  |_=> .fail
 | .rp nm i j=>(i_ nm).bind λ
  | .row e ex xs=>(q_ E e).bind λte=>bif plain ((te.ks.drop j).take ys.length)then(x_ ak ((te.ks.drop j).take ys.length) ys).bind λ(cs,_)=> .ret [(cR nm, .o (.row e ex (dV xs i j cs)))]else .fail
  |_=> .fail
 | .ip nm i j i2 j2=>(i_ nm).bind λ
  | .row e ai xs=>(q_ E e).bind λte=>match te.ks[j]? with
   |some (.l e2)=>(q_ E e2).bind λt2=>bif plain t2.ks then(x_ ak ((t2.ks.drop j2).take ys.length) ys).bind λ(cs,_)=>
    .ret [(cR nm, .o (.row e ai (dV xs i j [.l e2 (dV (iD (ar xs i j)) i2 j2 cs)])))]else .fail
   |_=> .fail
  |_=> .fail
 |_=> .fail
def HB:ay AV->aW
 |[]=>ai
 | .own _::_=>ak
 |_::r=>HB r
def yz:aE->ay AV->aC (aE×aE)
 |_,[]=>aj
 |q, .own n::r=>bif HB r then ah (q,n)else aj
 |q,_::r=>yz (q+1) r
def CA(e2 n2:aE)(zs:aU):ay Ck->ay AV->aC (ay CV)
 |[],[]=>ah []
 | .i k::ks, .i k' x::r=>if k=k' then(CA e2 n2 zs ks r).map (.i k x:: ·)else aj
 | .b::ks, .b x::r=>(CA e2 n2 zs ks r).map (.b x:: ·)
 | .s::ks, .s x::r=>(CA e2 n2 zs ks r).map (.s x:: ·)
 | .l e::ks, .own n::r=>bif bn e e2&&bn n n2 then(CA e2 n2 zs ks r).map (.l e2 zs:: ·)else aj
 |_,_=>aj
def FM(E:fm)(n i j:aE)(ys:ay AV):Rd (ay (aE×eA)):=
 (i_ n).bind λ
 | .row e ai xs=>(q_ E e).bind λte=>match yz 0 ys with
  |some (q,n2)=>bif bn n n2 then .fail else(i_ n2).bind λ
   | .row e2 ai zs=>(q_ E e2).bind λt2=>bif plain t2.ks&&e9 (j+ys.length) te.ks.length then(match CA e2 n2 zs ((te.ks.drop j).take ys.length) ys with
    |some cs=> .ret [(cR n, .o (.row e ai (dV xs i j cs))),(cR n2, .o .dead)]
    |none=> .fail)else .fail
   |_=> .fail
  |none=> .fail
 |_=> .fail
def Uy(E:fm)(n i j i2 j2 lo hi:aE):Rd (ay (aE×eA)):=
 (i_ n).bind λ
 | .row e ai xs=>(q_ E e).bind λte=>match te.ks[j]?,te.ks[j2]? with
  |some (.l e2),ah (.l e3)=>bif bn e2 e3 then .ret [(cR n, .o (.row e ak (dV xs i j [.l e2 (eu (iD (ar xs i2 j2)) lo hi)])))]else .fail
  |_,_=> .fail
 |_=> .fail
def Vn:ay AV->aC (aE×aE×aE×aE×aE)
 |[.iv n i j lo hi]=>ah (n,i,j,lo,hi)
 |_=>aj
def SX(E:fm)(p:AV)(ys:ay AV):Rd (ay (aE×eA)):=
 match p with
 | .rp n i j=>bif vl n then FM E n i j ys else(match Vn ys with
  |some (n2,i2,j2,lo,hi)=>bif bn n n2 then Uy E n i j i2 j2 lo hi else .fail
  |none=>FN E (.rp n i j) ys)
 |p=>FN E p ys
def Qb(E:fm)(t:aE)(f:aE)(p:AV):Rd AV:=
 match E.fo t f with
 |none=> .fail
 |some (o,_)=>match p with
  | .bp nm j=> .ret (.bp nm (j+o))
  | .rp nm i j=> .ret (.rp nm i (j+o))
  | .sp e xs i j=> .ret (.sp e xs i (j+o))
  | .ip nm i j i2 j2=> .ret (.ip nm i j i2 (j2+o))
  | .fp xs j=> .ret (.fp xs (j+o))
  |_=> .fail
def QJ(E:fm)(e:aE)(x:AV)(n:az):Rd (aW×AV):=
 match x with
 | .sh e' xs=>bif bn e e' then .ret (decide (0<=n)&&decide (n<(xs.length:az)), .sp e' xs n.toNat 0)else .fail
 | .own nm=>(i_ nm).bind λ
  | .row e' _ xs=>bif bn e e' then .ret (decide (0<=n)&&decide (n<(xs.length:az)), .rp nm n.toNat 0)else .fail
  | .fE e' xs=>bif bn e e' then .ret (decide (0<=n)&&decide (n<(xs.length:az)), .rp nm n.toNat 0)else .fail
  |_=> .fail
 | .vw nm lo hi=>(i_ nm).bind λ
  | .row e' _ xs=>bif bn e e' then .ret (decide (0<=n)&&decide (n<((hi-lo:aE):az)), .rp nm (lo+n.toNat) 0)else .fail
  | .fE e' xs=>bif bn e e' then .ret (decide (0<=n)&&decide (n<((hi-lo:aE):az)), .rp nm (lo+n.toNat) 0)else .fail
  |_=> .fail
 | .inn nm i j=>(i_ nm).bind λ
  | .row e1 ai xs=>(q_ E e1).bind λte=>match te.ks[j]? with
   |some (.l e')=>bif bn e e' then .ret (decide (0<=n)&&decide (n<((iD (ar xs i j)).length:az)), .ip nm i j n.toNat 0)else .fail
   |_=> .fail
  |_=> .fail
 |_=> .fail
def mC(x:aC da)(d:az):Rd az:=
 match x with
 |none=> .ret d
 |some x=>(Bu x).bind λ(_,n)=> .ret n
def iS(l h n:az):aW:=decide (0<=l)&&decide (l<=h)&&decide (h<=n)
def R_(e:aE)(x:AV)(lo hi:aC da):Rd (aW×AV):=
 match x with
 | .sh e' xs=>bif bn e e' then(mC lo 0).bind λl=>(mC hi xs.length).bind λh=> .ret (iS l h xs.length, .sh e' (eu xs l.toNat h.toNat))else .fail
 | .own nm=>(i_ nm).bind λ
  | .row e' _ xs=>bif bn e e' then(mC lo 0).bind λl=>(mC hi xs.length).bind λh=> .ret (iS l h xs.length, .vw nm l.toNat h.toNat)else .fail
  | .fE e' xs=>bif bn e e' then(mC lo 0).bind λl=>(mC hi xs.length).bind λh=> .ret (iS l h xs.length, .vw nm l.toNat h.toNat)else .fail
  |_=> .fail
 | .vw nm a b=>(i_ nm).bind λ
  | .row e' _ _=>bif bn e e' then(mC lo 0).bind λl=>(mC hi ((b-a:aE):az)).bind λh=> .ret (iS l h ((b-a:aE):az), .vw nm (a+l.toNat) (a+h.toNat))else .fail
  | .fE e' _=>bif bn e e' then(mC lo 0).bind λl=>(mC hi ((b-a:aE):az)).bind λh=> .ret (iS l h ((b-a:aE):az), .vw nm (a+l.toNat) (a+h.toNat))else .fail
  |_=> .fail
 | .nl=>(mC lo 0).bind λl=>(mC hi 0).bind λh=> .ret (iS l h 0, .nl)
 |_=> .fail
def adq(E:fm)(e n i j:aE)(lo hi:aC da):Rd (aW×AV):=
 (i_ n).bind λ
 | .row e1 ai xs=>(q_ E e1).bind λte=>match te.ks[j]? with
  |some (.l e')=>bif bn e e' then(mC lo 0).bind λl=>(mC hi (iD (ar xs i j)).length).bind λh=> .ret (iS l h (iD (ar xs i j)).length, .iv n i j l.toNat h.toNat)else .fail
  |_=> .fail
 |_=> .fail
def Sa(E:fm)(e:aE)(x:AV)(lo hi:aC da):Rd (aW×AV):=
 match x with
 | .inn n i j=>adq E e n i j lo hi
 |x=>R_ e x lo hi
def J_(E:fm)(k:Ck)(x:AV)(lo hi:aC da):Rd (aW×AV):=
 match k,x with
 | .s, .s a=>(mC lo 0).bind λl=>(mC hi a.size).bind λh=> .ret (iS l h a.size, .s (a.extract l.toNat h.toNat))
 | .l e,x=>(q_ E e).bind λ_=>Sa E e x lo hi
 |_,_=> .fail
def vK(e:aE)(s:AV):Rd (aW×aU×ay aE):=
 match s with
 | .nl=> .ret (ai,[],[])
 | .own nm=>(i_ nm).bind λ
  | .row e' ex xs=>bif bn e e' then .ret (ex,xs,[nm])else .fail
  |_=> .fail
 | .vw nm lo hi=>(i_ nm).bind λ
  | .row e' ex xs=>bif bn e e' then .ret (ex,eu xs lo hi,[nm])else .fail
  |_=> .fail
 |_=> .fail
def Q_(E:fm)(sH e:aE)(ks:ay Ck)(b:ay aE)(x:AV):Rd (aW×aU×ay (aE×eA)):=
 match x with
 | .s a=>bif u8s ks then .ret (ai,qc a,[])else .fail
 | .nl=> .ret (ai,[],[])
 | .sh e' xs=>bif bn e e' then .ret (plain ks,xs,[])else .fail
 | .own nm=>(i_ nm).bind λ
  | .row e' ex xs=>bif bn e e' then
    (bif plain ks|| !ex then .ret (plain ks,xs,[])
    else bif lX nm b then .fail
    else bif E.tk sH then .ret (ak,xs,[(cR nm, .o (.fE e xs))])else .ret (ai,xs,[(cR nm, .o .dead)]))else .fail
  | .fE e' xs=>bif bn e e' then .ret (plain ks,xs,[])else .fail
  |_=> .fail
 | .vw nm lo hi=>(i_ nm).bind λ
  | .row e' ex xs=>bif bn e e' then
    (bif plain ks|| !ex then .ret (plain ks,eu xs lo hi,[])
    else bif lX nm b then .fail
    else bif E.tk sH then .ret (ak,eu xs lo hi,[(cR nm, .o (.fE e xs))])else .fail)else .fail
  | .fE e' xs=>bif bn e e' then .ret (plain ks,eu xs lo hi,[])else .fail
  |_=> .fail
 | .inn nm i j=>bif plain ks then(lS E (.inn nm i j)).bind λ(e',xs)=>bif bn e e' then .ret (ai,xs,[])else .fail else .fail
 |_=> .fail
def nJ(b:ay aE):ay (aE×eA):=b.map λn=>(cR n, .o .dead)
def EL(E:fm)(sH:aE)(t:aE)(s x:AV):Rd (aW×AV×ay (aE×eA)):=
 (q_ E t).bind λti=>match ti.agg,ti.ks with
 |false,[.l e]=>(q_ E e).bind λte=>bif JN te.ks then(vK e s).bind λ(B9,xs,b)=>
  (Q_ E sH e te.ks b x).bind λ(zD,ys,w2)=>(fresh sH).bind λ_=>
  .ret (cB (xs.length+ys.length) te.bytes, .own sH,nJ b++(w2++[(cR sH, .o (.row e (B9&&zD) (xs++ys)))]))else .fail
 |_,_=> .fail
def Tj(E:fm)(sH:aE)(t:aE)(s:AV)(n:az):Rd (aW×AV×ay (aE×eA)):=
 (q_ E t).bind λti=>match ti.agg,ti.ks with
 |false,[.l e]=>(q_ E e).bind λte=>bif JN te.ks&&flat E te.ks then(vK e s).bind λ(ex,xs,b)=>(fresh sH).bind λ_=>
  .ret (decide (0<=n)&&cB (xs.length+n.toNat) te.bytes&&decide (n<=9223372036854775807), .own sH,nJ b++[(cR sH, .o (.row e ex (xs++aN te.ks n.toNat)))])else .fail
 |_,_=> .fail
def P5(E:fm)(e:aE)(x:AV):Rd (ay (aE×eA)):=
 match x with
 | .own nm=>(i_ nm).bind λ
  | .row e' ex xs=>(q_ E e).bind λte=>bif bn e e'&&plain te.ks then .ret [(cR nm, .o (.row e' ex (aN te.ks xs.length)))]else .fail
  |_=> .fail
 | .vw nm lo hi=>(i_ nm).bind λ
  | .row e' ex xs=>(q_ E e).bind λte=>bif bn e e'&&plain te.ks then .ret [(cR nm, .o (.row e' ex (xs.take lo++aN te.ks (hi-lo)++xs.drop hi)))]else .fail
  |_=> .fail
 | .nl=> .ret []
 |_=> .fail
def kW(mx:aW)(a b:az):az:=bif mx then(if b>a then b else a)else(if b<a then b else a)
def wa(mx:aW):ay da->mG->az->Rd AV
 |[],k,a=> .ret (.i k a)
 |x::r,k,a=>(Bu x).bind λ(_,b)=>wa mx r k (kW mx a b)
end Go.FG

namespace Go.FG
inductive Src where
 |own (nm e:aE) (ex:aW)|no
structure Pk where
 a:AA
 src:Src
 rd:ay aE
def zc(E:fm)(mt:aW)(a:AV):Rd Pk:=
 match a with
 | .i k n=> .ret ⟨.i k n, .no,[]⟩| .b x=> .ret ⟨.b x, .no,[]⟩| .s x=> .ret ⟨.s x, .no,[]⟩
 | .sh e xs=> .ret ⟨.sh e xs, .no,[]⟩
 | .nl=> .ret ⟨.nl, .no,[]⟩
 | .fn f iC=> .ret ⟨.fn f iC, .no,[]⟩
 | .own nm=>(i_ nm).bind λ
  | .row e ex xs=>bif mt then .ret ⟨.ow e ex xs, .own nm e ex,[]⟩else .ret ⟨.sh e xs, .no,[nm]⟩
  | .fE e xs=> .ret ⟨.sh e xs, .no,[]⟩
  |_=> .fail
 | .vw nm lo hi=>bif mt then .fail else(i_ nm).bind λ
  | .row e _ xs=> .ret ⟨.sh e (eu xs lo hi), .no,[nm]⟩
  | .fE e xs=> .ret ⟨.sh e (eu xs lo hi), .no,[]⟩
  |_=> .fail
 | .inn nm i j=>(i_ nm).bind λ
  | .row e ai xs=>(q_ E e).bind λte=>match te.ks[j]? with
   |some (.l e2)=>(q_ E e2).bind λt2=>bif plain t2.ks&& !mt then .ret ⟨.sh e2 (iD (ar xs i j)), .no,[nm]⟩else .fail
   |_=> .fail
  |_=> .fail
 |_=> .fail
def BF(E:fm)(mt:aW):ay AV->Rd (ay Pk)
 |[]=> .ret []
 |a::r=>(zc E mt a).bind λp=>(BF E mt r).bind λl=> .ret (p::l)
structure Pa where
 arg:eQ
 box:aC (aE×ay AV)
 cs:ay Pk
def abq(E:fm)(mt:aW)(x:SV):Rd Pa:=
 match x with
 | .v ak [.bp nm 0]=>bif mt then(i_ nm).bind λ
   | .box xs=>(BF E ai xs).bind λl=> .ret ⟨.pt (l.map (·.a)),ah (nm,xs),l⟩
   |_=> .fail
  else .fail
 | .v agg xs=>(BF E mt xs).bind λl=> .ret ⟨.v agg (l.map (·.a)),aj,l⟩
 |_=> .fail
def WB:Ck->AV->AV
 | .l e, .nl=> .sh e []
 |_,a=>a
def Bq:ay Ck->ay AV->ay AV
 |k::ks,a::r=>WB k a::Bq ks r
 |_,r=>r
def nlz(E:Tab)(t:aC aE)(v:SV):SV:=
 match t with
 |none=>v
 |some t=>match E.ty t,v with
  |some ti, .v g xs=> .v g (Bq ti.ks xs)
  |_,v=>v
def PR(E:fm)(f:aE)(N8:aC (ay aE)):aE->ay da->Rd (ay Pa)
 |_,[]=> .ret []
 |p,x::r=>(Fu x).bind λv=>(abq E (E.mode f p) (bif E.mode f p then v else nlz E (match N8 with|some l=>l[p]? |none=>aj) v)).bind λa=>bif e9 a.cs.length 100 then(PR E f N8 (p+1) r).bind λl=> .ret (a::l)else .fail
def Pk.tn(p:Pk):ay aE:=match p.src with| .own nm _ _=>[nm]| .no=>[]
def Pa.tn(p:Pa):ay aE:=(match p.box with|some (nm,_)=>[nm]|none=>[])++p.cs.flatMap (·.tn)
def Pa.mV(p:Pa):ay aE:=p.cs.flatMap (·.rd)
def sI:ay aE->aW
 |[]=>ai|n::r=> !lX n r&&sI r
def qH:ay aE->ay aE->aW
 |[],_=>ai|n::r,l=> !lX n l&&qH r l
def qJ(ok:aW)(nm:aE)(a:AA):Rd (AV×ay (aE×eA)):=
 match a with
 | .i k n=> .ret (.i k n,[])| .b x=> .ret (.b x,[])| .s x=> .ret (.s x,[])| .nl=> .ret (.nl,[])
 | .sh e xs=>bif ok then .ret (.sh e xs,[])else .fail
 | .ow e ex xs=>bif ex||ok then(fresh nm).bind λ_=> .ret (.own nm,[(cR nm, .o (.row e ex xs))])else .fail
 |_=> .fail
def zM(ok:aW):aE->ay AA->Rd (ay AV×ay (aE×eA))
 |_,[]=> .ret ([],[])
 |nm,a::r=>(qJ ok nm a).bind λ(v,w)=>(zM ok (nm+1) r).bind λ(vs,ws)=> .ret (v::vs,w++ws)
def EO(ok:aW)(nm:aE)(a:eQ):Rd ((aW×ay AV)×ay (aE×eA)):=
 match a with
 | .v agg xs=>(zM ok nm xs).bind λ(vs,ws)=> .ret ((agg,vs),ws)
 | .pt xs=>(zM ok nm xs).bind λ(vs,ws)=>(fresh (nm+30)).bind λ_=> .ret ((ak,[.bp (nm+30) 0]),ws++[(cR (nm+30), .o (.box vs))])
 | .fb _=> .fail
def AM(ok:aW):aE->ay eQ->Rd (ay (aW×ay AV)×ay (aE×eA))
 |_,[]=> .ret ([],[])
 |nm,a::r=>(EO ok nm a).bind λ(v,w)=>(AM ok (nm+40) r).bind λ(vs,ws)=> .ret (v::vs,w++ws)
def DG(ok:aW)(p:Pk)(a:AA):Rd (ay (aE×eA)):=
 match p.src,a with
 | .no,_=> .ret []
 | .own nm e ex, .kp xs=>bif ex||ok then .ret [(cR nm, .o (.row e ex xs))]else .fail
 | .own nm _ _, .nl=> .ret [(cR nm, .o .dead)]
 |_,_=> .fail
def JX(ok:aW):ay Pk->ay AA->Rd (ay (aE×eA))
 |[],_=> .ret []
 |p::r,l=>(DG ok p (l.headD .nl)).bind λw=>(JX ok r l.tail).bind λws=> .ret (w++ws)
def Bx(ok:aW)(nm:aE)(p:Pk)(v:AV)(a:AA):Rd (AV×ay (aE×eA)):=
 match p.src,a with
 | .own n e ex, .kp xs=>bif ex||ok then .ret (v,[(cR n, .o (.row e ex xs))])else .fail
 | .own n _ _,a=>(qJ ok nm a).bind λ(v,w)=> .ret (v,(cR n, .o .dead)::w)
 | .no,a=>qJ ok nm a
def qV(ok:aW):aE->ay Pk->ay AV->ay AA->Rd (ay AV×ay (aE×eA))
 |_,[],[],[]=> .ret ([],[])
 |nm,p::ps,v::vs,a::as=>(Bx ok nm p v a).bind λ(v,w)=>(qV ok (nm+1) ps vs as).bind λ(vs,ws)=> .ret (v::vs,w++ws)
 |_,_,_,_=> .fail
def RG(ok:aW)(nm:aE)(p:Pa)(l:ay AA):Rd (ay (aE×eA)):=
 match p.box with
 |some (n,vs)=>(qV ok nm p.cs vs l).bind λ(vs,ws)=> .ret (ws++[(cR n, .o (.box vs))])
 |none=>JX ok p.cs l
def JW(ok:aW):aE->ay Pa->ay (ay AA)->Rd (ay (aE×eA))
 |_,[],_=> .ret []
 |nm,p::r,l=>(RG ok nm p (l.headD [])).bind λw=>(JW ok (nm+40) r l.tail).bind λws=> .ret (w++ws)
def rD:ay (aW×ay AV)->SV
 |[(agg,xs)]=> .v agg xs
 |l=> .jE l
def mL:eQ->aE| .v _ xs=>xs.length| .pt xs=>xs.length| .fb _=>0
def Qk:ay aE->Rd (ay (aE×eA))
 |[]=> .ret []
 |n::r=>(i_ n).bind λ
  | .row e _ xs=>(Qk r).bind λws=> .ret ((cR n, .o (.fE e xs))::ws)
  |_=> .fail
def ER(E:fm)(nm:aE)(o:eV)(f:aE)(args:ay da)(N8:aC (ay aE))(iC:ay (ay CV)):Rd rW:=
 (PR E f N8 0 args).bind λps=>
  bif sI (ps.flatMap (·.tn))&&qH (ps.flatMap (·.tn)) (ps.flatMap (·.mV))then
   match E.call f (ps.map (·.arg)++iC.map eQ.fb)with
   |some (c,r)=>bif e9 ps.length 400&&(r.rs.all λa=>e9 (mL a) 30)&&(r.outs.all λa=>e9 a.length 100)then(Qk (bif E.tk nm then ps.flatMap (·.mV)else [])).bind λw0=>
    (JW (E.tk nm||(ps.flatMap (·.mV)).isEmpty) (nm+400) ps r.outs).bind λw1=>(AM (E.tk nm||(ps.flatMap (·.mV)).isEmpty) (nm+1) r.rs).bind λ(vs,w2)=>
    bif sI ((w1++w2).map (·.1))then .ret ⟨c,w0++(w1++w2)++dw o (rD vs)⟩else .fail else .fail
   |none=> .fail
  else .fail
def Rd.or{α:Type}:Rd α->Rd α->Rd α
 | .ret a,_=> .ret a
 | .fail,y=>y
 | .get k f,y=> .get k λc=>(f c).or y
def KW(E:fm)(nm:aE)(o:eV)(f:aE)(args:ay da)(N8:ay aE)(iC:ay (ay CV)):Rd rW:=
 (ER E nm o f args aj iC).or (ER E nm o f args (ah N8) iC)
def Bi(E:fm)(o:eV)(f n i j:aE)(y:da):Rd rW:=
 (Bu y).bind λ(k,m)=>(i_ n).bind λ
  | .row e ai xs=>(q_ E e).bind λte=>match te.ks[j]? with
   |some (.l e2)=>match E.call f [.v ak [.ow e2 ai (iD (ar xs i j))], .v ak [.i k m]]with
    |some (c,r)=>match r.rs,r.outs with
     |[.v ak [.i k2 m2]],[[.kp ys]]=> .ret ⟨c,(cR n, .o (.row e ai (dV xs i j [.l e2 ys])))::dw o (.v ak [.i k2 m2])⟩
     |_,_=> .fail
    |none=> .fail
   |_=> .fail
  |_=> .fail
def PZ:ay da->Rd (ay (ay CV)×ay (aE×eA))
 |[]=> .ret ([],[])
 |x::r=>(qU x).bind λ
  | .bp nm 0=>(i_ nm).bind λ
   | .box xs=>(aby xs).bind λcs=>(PZ r).bind λ(l,ws)=> .ret (cs::l,(cR nm, .o (.nB cs))::ws)
   | .nB cs=>(PZ r).bind λ(l,ws)=> .ret (cs::l,ws)
   |_=> .fail
  |_=> .fail
where aby:ay AV->Rd (ay CV)
 |[]=> .ret []
 |a::r=>(aby r).bind λl=>match a with
  | .i k n=> .ret (.i k n::l)| .b x=> .ret (.b x::l)| .s x=> .ret (.s x::l)
  | .sh e xs=> .ret (.l e xs::l)
  |_=> .fail
def lE(E:fm)(nm:aE)(o:eV):Rd rW:=
 match o.op with
 | .move x| .assign x=>(Fu x).bind λv=>val o v
 | .nilCheck x=>(qU x).bind λp=>match p with
  | .bp nm j=>val o (.v ak [.bp nm j])
  | .rp nm i j=>val o (.v ak [.rp nm i j])
  |_=> .fail
 | .pick c a b=>(qU c).bind λc=>(Fu a).bind λa=>(Fu b).bind λb=>
  match c,a,b with
  | .b c, .v ak [.b p], .v ak [.b q]=>yJ o (.b (bif c then p else q))
  | .b c, .jE [],b=> .ret ⟨!c,dw o b⟩
  | .b c,a, .jE []=> .ret ⟨c,dw o a⟩
  |_,_,_=> .fail
 | .alloc t=>(q_ E t).bind λti=>bif JN ti.ks then(fresh nm).bind λ_=> .ret ⟨ai,(cR nm, .o (.box (ti.ks.map B0)))::dw o (.v ak [.bp nm 0])⟩else .fail
 | .box t x=>(Fu x).bind λ
  | .v _ xs=>(fresh nm).bind λ_=> .ret ⟨ai,(cR nm, .o (.box xs))::dw o (.v ak [.bp nm 0])⟩
  |_=> .fail
 | .build t ps=>(q_ E t).bind λti=>bif JN ti.ks&&ti.agg then(Fv E t ps.toList).bind λl=>val o (.v ai (K_ (ti.ks.map B0) l))else .fail
 | .buildSlice t n ps=>(q_ E t).bind λti=>match ti.agg,ti.ks with
  |false,[.l e]=>(q_ E e).bind λte=>bif JN te.ks then(K5 ps.toList).bind λex=>(Jb (ex&&flat E te.ks) te.ks ps.toList (aN te.ks n)).bind λ(xs,w)=>(fresh nm).bind λ_=>
   .ret ⟨e9 (n*te.ks.length) 16777216&&sI (w.map (·.1)),w++(cR nm, .o (.row e (ex&&flat E te.ks) xs))::dw o (.v ak [.own nm])⟩else .fail
  |_,_=> .fail
 | .load t p=>(q_ E t).bind λti=>(qU p).bind λp=>(rB E ti p).bind λxs=>val o (.v ti.agg xs)
 | .store t p x=>(q_ E t).bind λti=>(qU p).bind λp=>(Fu x).bind λ
  | .v _ ys=>bif bn ys.length ti.ks.length then(SX E p ys).bind λw=> .ret ⟨ai,w++dw o .un⟩else .fail
  |_=> .fail
 | .fieldAddr t p f=>(qU p).bind λp=>(Qb E t f p).bind λq=>yJ o q
 | .field t x f=>(Fu x).bind λ
  | .v ai xs=>match E.fo t f with
   |some (j,n)=>bif E.Qg t f&&bn n 1 then(match xs.drop j with|a::_=>yJ o a|[]=> .fail)else .fail
   |none=> .fail
  |_=> .fail
 | .indexAddr t x i=>(pf E t).bind λ
  | .l e=>(qU x).bind λx=>(Bu i).bind λ(_,n)=>(QJ E e x n).bind λ(c,q)=>Kg o c q
  |_=> .fail
 | .index t x i=>(pf E t).bind λk=>(qU x).bind λx=>(Bu i).bind λ(_,n)=>match k,x with
  | .s, .s a=>Kg o (decide (0<=n)&&decide (n<(a.size:az))) (.i .u8 ((a.data.getD n.toNat 0).toNat:az))
  |_,_=> .fail
 | .binOp op t x y _=>(Fu x).bind λx=>(Fu y).bind λy=>(abv E t op x y).bind λ(c,v)=>Kg o c v
 | .unOp op _ x=>(qU x).bind λx=>match op,x with
  | .not, .b x=>yJ o (.b (!x))
  | .neg, .i k n=>yJ o (.i k (k.wrap (0-n)))
  |_,_=> .fail
 | .convert src dst x=>(pf E src).bind λks=>(pf E dst).bind λkd=>(qU x).bind λx=>match kd,ks,x with
  | .i k, .i _, .i _ n=>yJ o (.i k (k.wrap n))
  | .s, .s, .s a=>yJ o (.s a)
  | .s, .l e', .nl=>(q_ E e').bind λte=>bif u8s te.ks&& !te.agg then yJ o (.s ⟨#[]⟩)else .fail
  | .s, .l e',a=>(lS E a).bind λ(e,xs)=>(q_ E e).bind λte=>bif bn e e'&&u8s te.ks&& !te.agg then Kg o (decide (xs.length<=4611686018427387904)) (.s (bytesOf xs))else .fail
  |_,_,_=> .fail
 | .makeSlice t l c=>(Bu l).bind λ(_,n)=>(Bu c).bind λ(_,m)=>(q_ E t).bind λti=>match ti.agg,ti.ks with
  |false,[.l e]=>(q_ E e).bind λte=>bif JN te.ks&&flat E te.ks then(fresh (bif plain te.ks then nm else nm+999)).bind λ_=> .ret ⟨decide (0<=n)&&decide (n=m)&&cB n.toNat te.bytes,(cR (bif plain te.ks then nm else nm+999), .o (.row e ai (aN te.ks n.toNat)))::dw o (.v ak [.own (bif plain te.ks then nm else nm+999)])⟩else .fail
  |_,_=> .fail
 | .slice t x lo hi mx=>match mx with
  |some _=> .fail
  |none=>(pf E t).bind λk=>(qU x).bind λx=>(J_ E k x lo hi).bind λ(c,v)=>Kg o c v
 | .extract x i=>(Fu x).bind λ
  | .jE l=>match l[i]? with|some (agg,xs)=>val o (.v agg xs)|none=> .fail
  |_=> .fail
 | .makeFunc (.func f) first iC=>bif first.isEmpty then(PZ iC.toList).bind λ(l,ws)=> .ret ⟨ai,ws++dw o (.v ak [.fn f l])⟩else .fail
 | .call c=>match c.callee with
  | .builtin .len=>match c.args.toList,c.argTypes.toList with
   |[x],[t]=>(pf E t).bind λk=>(qU x).bind λx=>(acE E k x).bind λn=>yJ o (.i .i64 n)
   |_,_=> .fail
  | .builtin .cap=>match c.args.toList,c.argTypes.toList with
   |[x],[t]=>(pf E t).bind λ| .l _=>((qU x).bind λ| .nl=>yJ o (.i .i64 0)|_=> .fail)|_=> .fail
   |_,_=> .fail
  | .builtin .min=>match c.args.toList with
   |x::r=>(Bu x).bind λ(k,n)=>(wa ak r k n).bind λv=>yJ o v
   |_=> .fail
  | .builtin .max=>match c.args.toList with
   |x::r=>(Bu x).bind λ(k,n)=>(wa ai r k n).bind λv=>yJ o v
   |_=> .fail
  | .builtin .clear=>match c.args.toList with
   |[x]=>match c.argTypes.toList with
    |[t]=>(pf E t).bind λ| .l e=>((qU x).bind λx=>(P5 E e x).bind λw=> .ret ⟨ai,w++dw o (.jE [])⟩)|_=> .fail
    |_=> .fail
   |_=> .fail
  | .builtin .append=>match c.args.toList,c.argTypes.toList with
   |[s,x],[t,u]=>(pf E u).bind λku=>(qU s).bind λs=>(qU x).bind λx=>match ku,x with
    | .i _, .i _ n=>(Tj E nm t s n).bind λ(b,v,w)=> .ret ⟨b,w++dw o (.v ak [v])⟩
    | .l _,x=>(EL E nm t s x).bind λ(b,v,w)=> .ret ⟨b,w++dw o (.v ak [v])⟩
    | .s,x=>(EL E nm t s x).bind λ(b,v,w)=> .ret ⟨b,w++dw o (.v ak [v])⟩
    |_,_=> .fail
   |_,_=> .fail
  | .value f=>(qU f).bind λ
   | .fn f iC=>match c.args.toList,iC with
    |[x,y],[]=>(Fu x).bind λ
     | .v ak [.inn n i j]=>bif E.mode f 0 then Bi E o f n i j y else KW E nm o f c.args.toList c.argTypes.toList iC
     |_=>KW E nm o f c.args.toList c.argTypes.toList iC
    |_,_=>KW E nm o f c.args.toList c.argTypes.toList iC
   |_=> .fail
  |_=> .fail
 |_=> .fail
inductive Ex where
 |normal|exit (id:aE)|ret
structure Lg where
 rs:ay aE
 ws:ay aE
def Le{R:Type}(a:AV)(f:AV->R):R:=
 match a with
 | .i k n=>f (.i k n)| .b x=>f (.b x)| .s x=>f (.s x)| .sh e xs=>f (.sh e xs)| .nl=>f .nl| .own n=>f (.own n)| .vw n lo hi=>f (.vw n lo hi)
 | .bp n j=>f (.bp n j)| .rp n i j=>f (.rp n i j)| .sp e xs i j=>f (.sp e xs i j)| .inn n i j=>f (.inn n i j)| .ip n i j i2 j2=>f (.ip n i j i2 j2)| .iv n i j lo hi=>f (.iv n i j lo hi)| .fn g iC=>f (.fn g iC)| .fp xs j=>f (.fp xs j)
def EW{R:Type}(a:aW)(f:aW->R):R:=match a with|true=>f ai|false=>f ak
def oC{R:Type}:ay AV->(ay AV->R)->R
 |[],f=>f []|a::r,f=>Le a λa=>oC r λr=>f (a::r)
def EY{R:Type}:ay (aW×ay AV)->(ay (aW×ay AV)->R)->R
 |[],f=>f []|(g,xs)::r,f=>EW g λg=>oC xs λxs=>EY r λr=>f ((g,xs)::r)
def EX{R:Type}(v:SV)(f:SV->R):R:=
 match v with
 | .v g xs=>EW g λg=>oC xs λxs=>f (.v g xs)| .jE l=>EY l λl=>f (.jE l)| .un=>f .un
def Jo{R:Type}(o:Obj)(f:Obj->R):R:=
 match o with
 | .box xs=>oC xs λxs=>f (.box xs)| .nB cs=>f (.nB cs)| .row e ex xs=>EW ex λex=>f (.row e ex xs)| .fE e xs=>f (.fE e xs)| .dead=>f .dead
def Jn{R:Type}(c:eA)(f:eA->R):R:=
 match c with
 | .v x=>EX x λx=>f (.v x)| .o x=>Jo x λx=>f (.o x)| .jq=>f .jq
def A_{R:Type}:ay (aE×eA)->(ay (aE×eA)->R)->R
 |[],f=>f []|(k,c)::r,f=>Jn c λc=>A_ r λr=>f ((k,c)::r)
theorem Jm{R:Type}(a:AV)(f:AV->R):Le a f=f a:=by cases a<;>rfl
theorem yp{R:Type}(a:aW)(f:aW->R):EW a f=f a:=by cases a<;>rfl
theorem ni{R:Type}:∀(l:ay AV) (f:ay AV->R),oC l f=f l
 |[],_=>rfl
 |a::r,f=>by simp only[oC,Jm,ni r]
theorem Ds{R:Type}:∀(l:ay (aW×ay AV)) (f:ay (aW×ay AV)->R),EY l f=f l
 |[],_=>rfl
 |(g,xs)::r,f=>by simp only[EY,yp,ni,Ds r]
theorem Jp{R:Type}(v:SV)(f:SV->R):EX v f=f v:=by cases v<;>simp only[EX,yp,ni,Ds]
theorem MV{R:Type}(v:Obj)(f:Obj->R):Jo v f=f v:=by cases v<;>simp only[Jo,yp,ni]
theorem MU{R:Type}(v:eA)(f:eA->R):Jn v f=f v:=by cases v<;>simp only[Jn,Jp,MV]
theorem Dt{R:Type}:∀(l:ay (aE×eA)) (f:ay (aE×eA)->R),A_ l f=f l
 |[],_=>rfl
 |(k,c)::r,f=>by simp only[A_,MU,Dt r]
def ops{R:Type}(E:fm)(all:c_ eV)(nD:aE):aE->ay eV->St->ay Lg->(St->ay Lg->aC R)->aC R
 |_,[],σ,lg,K=>K σ lg
 |i,o::rest,σ,lg,K=>match o.guard with
  |none=>match (lE E ((nD+1)*1000000+i*1000) o).run σ []with
   |some (e,l)=>bif e.cond then A_ e.ws (λws=>ops E all nD (i+1) rest (wr σ ws) (⟨l,ws.map (·.1)⟩::lg) K)else aj
   |none=>aj
  |some (g,want)=>match (all.getD g default).dst with
   |none=>aj
   |some d=>match σ (pJ d)with
    | .v (.v ak [.b x])=>
     let perform:=λy=>match (lE E ((nD+1)*1000000+i*1000) o).run (oe σ (pJ d) (.v (.v ak [.b y]))) []with
      |some (e,l)=>bif e.cond then A_ e.ws (λws=>ops E all nD (i+1) rest (wr (oe σ (pJ d) (.v (.v ak [.b y]))) ws) (⟨pJ d::l,ws.map (·.1)⟩::lg) K)else aj
      |none=>aj
     let skip:=λy=>ops E all nD (i+1) rest (wr (oe σ (pJ d) (.v (.v ak [.b y]))) (dw o (.jE []))) (⟨[pJ d],(dw o (.jE [])).map (·.1)⟩::lg) K
     bif x then(bif want then perform ai else skip ai)else(bif want then skip ak else perform ak)
    | .v (.jE [])=>ops E all nD (i+1) rest (wr σ (dw o (.jE []))) (⟨[pJ d],(dw o (.jE [])).map (·.1)⟩::lg) K
    |_=>aj
def ddA(acc:ay aE):ay aE->ay aE
 |[]=>acc|n::r=>bif lX n acc then ddA acc r else ddA (n::acc) r
def mf{R:Type}:ay aE->(ay aE->R)->R
 |[],f=>f []|n::r,f=>mf r λr=>f (n::r)
def zW{R:Type}:ay (ay aE)->(ay (ay aE)->R)->R
 |[],f=>f []|n::r,f=>mf n λn=>zW r λr=>f (n::r)
theorem oa{R:Type}:∀(l:ay aE) (f:ay aE->R),mf l f=f l
 |[],_=>rfl
 |n::r,f=>by simp only[mf,oa r]
theorem A8{R:Type}:∀(l:ay (ay aE)) (f:ay (ay aE)->R),zW l f=f l
 |[],_=>rfl
 |n::r,f=>by simp only[zW,oa,A8 r]
theorem ES:∀(l acc:ay aE) (x:aE),x∈ddA acc l->x∈acc\/x∈l
 |[],_,_,h=> .inl h
 |n::r,acc,x,h=>by
  unfold ddA at h;cases hb:lX n acc with
  |true=>
   rw[hb]at h;rcases ES r acc x h with h|h
   ·exact .inl h
   ·exact .inr (cU _ h)
  |false=>
   rw[hb]at h;rcases ES r (n::acc) x h with h|h
   ·rcases cz.1 h with rfl|h
    ·exact .inr dA
    ·exact .inl h
   ·exact .inr (cU _ h)
def EK:ay (ay aE)->ay eV->ay (ay aE)
 |acc,[]=>acc
 |acc,o::r=>mf (ddA [] (o.after.toList.flatMap λe=>bif l8 .any e then e.on::acc.getD e.on []else [])) λx=>EK (acc++[x]) r
def HF:aE->ay eV->aW
 |_,[]=>ai
 |i,o::r=>(o.after.toList.all λe=> !Region.binds .any e||Nat.blt e.on i)&&HF (i+1) r
def AW(a b:Lg):aW:= !(qH a.ws b.ws&&qH a.ws b.rs&&qH b.ws a.rs)
def zP(an:ay aE)(j:aE)(a:Lg):aE->ay Lg->aW
 |_,[]=>ai
 |i,b::r=>(lX i an|| !AW a b)&&zP an j a (i+1) r
def calm:aE->ay (ay aE)->ay Lg->ay Lg->aW
 |_,_,_,[]=>ai
 |j,an,done,a::r=>zP (an.getD j []) j a 0 done&&calm (j+1) an (done++[a]) r
def zV{R:Type}:ay Lg->(ay Lg->R)->R
 |[],f=>f []|a::r,f=>mf a.rs λrs=>mf a.ws λws=>zV r λr=>f (⟨rs,ws⟩::r)
theorem A6{R:Type}:∀(l:ay Lg) (f:ay Lg->R),zV l f=f l
 |[],_=>rfl
 |n::r,f=>by simp only[zV,oa,A6 r]
def KX(an:ay (ay aE))(l:ay Lg):aW:=zW an λan=>zV l λl=>calm 0 an [] l
theorem PY(an:ay (ay aE))(l:ay Lg):KX an l=calm 0 an [] l:=by simp only[KX,A8,A6]
def bE:AV->ay aE
 | .own n=>[n]| .vw n _ _=>[n]| .bp n _=>[n]| .rp n _ _=>[n]| .inn n _ _=>[n]| .ip n _ _ _ _=>[n]| .iv n _ _ _ _=>[n]|_=>[]
def cw:SV->ay aE
 | .v _ xs=>xs.flatMap bE| .jE l=>l.flatMap λ(_,xs)=>xs.flatMap bE| .un=>[]
def Un:ay aE->ay aE->ay aE
 |l,[]=>l
 |l,n::r=>mf (bif lX n l then l else l++[n]) λl=>Un l r
def slot(σ:St)(n:aE):SV:=match σ (pJ n)with| .v x=>x|_=> .un
def agJ(σ:St)(nm:aE):ay aE:=match σ (cR nm)with| .o (.box xs)=>xs.flatMap bE|_=>[]
def idx(n:aE):aE->ay aE->aC aE
 |_,[]=>aj|i,m::r=>bif bn n m then ah i else idx n (i+1) r
def enc(f:aW)(k:aE):aE:=bif f then k*1000+999 else k
def uq(l:ay aE)(n:aE):aC aE:=bif e9 900000000 n then(bif lX n l then ah n else aj)else(match idx n 0 l with|some k=>ah (enc (vl n) k)|none=>aj)
def oK(l:ay aE)(a:AV):AV:=
 match a with
 | .own n=>match uq l n with|some k=> .own k|none=> .nl
 | .vw n lo hi=>match uq l n with|some k=> .vw k lo hi|none=> .nl
 | .bp n j=>match uq l n with|some k=> .bp k j|none=> .nl
 | .rp n i j=>match uq l n with|some k=> .rp k i j|none=> .nl
 | .inn n i j=>match uq l n with|some k=> .inn k i j|none=> .nl
 | .ip n i j i2 j2=>match uq l n with|some k=> .ip k i j i2 j2|none=> .nl
 | .iv n i j lo hi=>match uq l n with|some k=> .iv k i j lo hi|none=> .nl
 |a=>a
def yu(l:ay aE)(ns:ay aE):aW:=ns.all λn=>lX n l
def DI(l:ay aE)(v:SV):SV:=
 bif yu l (cw v)then(match v with
 | .v agg xs=> .v agg (xs.map (oK l))| .jE r=> .jE (r.map λ(g,xs)=>(g,xs.map (oK l)))| .un=> .un)else .un
def NA(l:ay aE)(o:eA):eA:=
 match o with
 | .o (.box xs)=>bif yu l (xs.flatMap bE)then .o (.box (xs.map (oK l)))else .o .dead
 | .o x=> .o x
 |_=> .o .dead
def fN:ay (aE×eA)->St
 |[],_=> .jq
 |(k,c)::r,n=>bif bn n k then c else fN r n
def u_(σ:St)(l:ay aE):ay aE->ay (aE×eA)
 |[]=>[]|n::r=>match uq l n with|some k=>(cR k,NA l (σ (cR n)))::u_ σ l r|none=>u_ σ l r
def I6(keep:ay aE)(σ:St):ay aE:=
 mf (Un [] (keep.flatMap λn=>cw (slot σ n))) λl0=>mf (Un l0 (l0.flatMap (agJ σ))) λl1=>Un l1 (l1.flatMap (agJ σ))
def I5(keep:ay aE)(σ:St)(l:ay aE):ay (aE×eA):=
 bif e9 l.length 900 then keep.map (λn=>(pJ n, .v (DI l (slot σ n))))++u_ σ l l else []
def Vp(x:aE):aW:=e9 1000000000000000 x
def Y9(x:aE):aE:=(x/1000000)%1000000000
def QV(x:aE):aE:=(x/1000)%1000
def kTy(x:aE):aE:=x%1000
def kNm(x:aE):aE:=800000000+((x/1000)%1000000)*100
def zb{α:Type}(x:aE)(σ:St)(f:St->α):α:=
 match slot σ (Y9 x)with
 | .v ak [.bp nm 0]=>match σ (cR nm),σ (cR (kNm x))with
  | .o (.box xs), .jq=>match xs[QV x]? with
   |some .nl=>oC (xs.set (QV x) (.own (kNm x))) λys=>f (oe (oe σ (cR nm) (.o (.box ys))) (cR (kNm x)) (.o (.row (kTy x) ai [])))
   |_=>f σ
  |_,_=>f σ
 |_=>f σ
def LA{α:Type}:ay aE->St->(St->α)->α
 |[],σ,f=>f σ
 |x::r,σ,f=>bif Vp x then zb x σ (λσ=>LA r σ f)else LA r σ f
def I7(keep:ay aE)(σ:St):ay (aE×eA):=LA keep σ λσ=>mf (keep.filter λx=> !Vp x) λkeep=>mf (I6 keep σ) λl=>I5 keep σ l
def canon(keep:ay aE)(σ:St):St:=fN (I7 keep σ)
def fm.y_(E:fm)(n:aE):ay aE:=(E.keep n).filter λx=>bif Vp x then(match E.ty (kTy x)with|some _=>ai|none=>ak)else ai
def gk:Code->aE
 | .region id _ _=>id| .seq a _=>gk a| .block _ c=>gk c| .scope c=>gk c|_=>0
def DA{R:Type}(g:St->aC R)(cn:St->St)(K:Ex->St->aC R):Ex->St->aC R
 | .normal,σ=>g (cn σ)
 |e,σ=>K e (cn σ)
def iter{R:Type}(f:St->(Ex->St->aC R)->aC R)(cn:St->St):aE->St->(Ex->St->aC R)->aC R
 |0,_,_=>aj
 |n+1,σ,K=>f σ (DA (λs=>iter f cn n s K) cn K)
theorem Nb{R:Type}(f:St->(Ex->St->aC R)->aC R)(cn:St->St)(n:aE)(σ:St)(K:Ex->St->aC R):iter f cn (n+1) σ K=f σ (DA (λs=>iter f cn n s K) cn K):=rfl
abbrev It(R:Type):=aE->(St->(Ex->St->aC R)->aC R)->(St->St)->ay (aE×eA)->(Ex->St->aC R)->aC R
def asa{R:Type}(n:aE):It R:=λ_ f cn L K=>iter f cn n (fN L) K
def aqY{R:Type}(f:St->(Ex->St->aC R)->aC R)(K:Ex->St->aC R):Ex->St->aC R
 | .normal,σ=>f σ K
 |e,σ=>K e σ
def am5{R:Type}(id:aE)(K:Ex->St->aC R):Ex->St->aC R
 | .exit j,σ=>bif bn j id then K .normal σ else K (.exit j) σ
 |e,σ=>K e σ
def sA{R:Type}(E:fm)(it:It R):Code->St->(Ex->St->aC R)->aC R
 | .skip,σ,K=>K .normal σ
 | .region id os draw,σ,K=>ops E os id 0 os.toList σ [] λσ lg=>bif !draw||(HF 0 os.toList&&KX (EK [] os.toList) lg.reverse)then K .normal σ else aj
 | .seq a b,σ,K=>sA E it a σ (aqY (sA E it b) K)
 | .cond c a b,σ,K=>match c with
  | .tmp t=>match σ (pJ t)with
   | .v (.v ak [.b x])=>bif x then(sA E it a (oe σ (pJ t) (.v (.v ak [.b ai]))) K)else(sA E it b (oe σ (pJ t) (.v (.v ak [.b ak]))) K)
   |_=>aj
  |_=>aj
 | .block id c,σ,K=>sA E it c σ (am5 id K)
 | .loop c,σ,K=>it (gk c) (sA E it c) (canon (E.y_ (gk c))) (I7 (E.y_ (gk c)) σ) K
 | .exit id,σ,K=>K (.exit id) σ
 | .ret,σ,K=>K .ret σ
 |_,_,_=>aj
def jv:Code->ay Code
 | .seq a b=>jv a++jv b
 | .cond _ a b=>jv a++jv b
 | .block _ c=>jv c
 | .loop c=>c::jv c
 |_=>[]
def Bj(nD:aE):Code->aC Code
 | .seq a b=>match Bj nD a with|some r=>ah r|none=>Bj nD b
 | .cond _ a b=>match Bj nD a with|some r=>ah r|none=>Bj nD b
 | .block _ c=>Bj nD c
 | .loop c=>bif bn (gk c) nD then ah c else Bj nD c
 |_=>aj
def b8(F:Func)(nD:aE):Code:=((F.body.bind (Bj nD)).getD .skip)
end Go.FG

namespace Go.FG
def dK(p j:aE):aE:=900000000+p*1000+j
def kK(nm:aE)(a:AA):AV:=
 match a with
 | .i k n=> .i k n| .b x=> .b x| .s x=> .s x| .sh e xs=> .sh e xs| .nl=> .nl
 | .ow _ _ _=> .own nm| .kp _=> .nl| .fn f iC=> .fn f iC
def Dy(nm:aE)(a:AA):ay (aE×eA):=match a with| .ow e ex xs=>[(cR nm, .o (.row e ex xs))]|_=>[]
def gf(nm:aE):ay AA->ay AV
 |[]=>[]|a::r=>kK nm a::gf (nm+1) r
def sE(nm:aE):ay AA->ay (aE×eA)
 |[]=>[]|a::r=>Dy nm a++sE (nm+1) r
def sF(p:aE)(a:eQ):SV:=
 match a with
 | .v agg xs=> .v agg (gf (dK p 0) xs)
 | .pt _=> .v ak [.bp (dK p 900) 0]
 | .fb xs=> .v ak [.fp xs 0]
def uk(p:aE)(a:eQ):ay (aE×eA):=
 match a with
 | .v _ xs=>sE (dK p 0) xs
 | .pt xs=>(cR (dK p 900), .o (.box (gf (dK p 0) xs)))::sE (dK p 0) xs
 | .fb _=>[]
def JE:aE->ay eQ->ay (aE×eA)
 |_,[]=>[]|p,a::r=>(pJ p, .v (sF p a))::uk p a++JE (p+1) r
def inj(args:ay eQ):St:=fN (JE 0 args)
def yY(E:fm)(e:aE):aW:=match E.ty e with|some _=>ai|none=>ak
def yX(E:fm)(om:Om)(σ:St)(k:Ck)(a:AV):aC (AA×ay aE×ay aE):=
 match a with
 | .i k n=>ah (.i k n,[],[])| .b x=>ah (.b x,[],[])| .s x=>ah (.s x,[],[])
 | .sh e xs=>match om with| .own _=>aj|_=>ah (.sh e xs,[],[])
 | .nl=>match om with
  | .own e=>bif yY E e then ah (.ow e ai [],[],[])else aj
  | .sh e=>ah (.sh e [],[],[])
  | .nat=>match k with| .l e=>bif yY E e then ah (.ow e ai [],[],[])else aj|_=>ah (.nl,[],[])
 | .own nm=>match σ (cR nm)with
  | .o (.row e ex xs)=>match om with| .sh _=>ah (.sh e xs,[],[nm])|_=>ah (.ow e ex xs,[nm],[])
  | .o (.fE e xs)=>match om with| .own _=>aj|_=>ah (.sh e xs,[],[])
  |_=>aj
 | .vw nm lo hi=>match σ (cR nm)with
  | .o (.row e ex xs)=>match om with| .sh _=>ah (.sh e (eu xs lo hi),[],[nm])|_=>ah (.ow e ex (eu xs lo hi),[nm],[])
  | .o (.fE e xs)=>match om with| .own _=>aj|_=>ah (.sh e (eu xs lo hi),[],[])
  |_=>aj
 |_=>aj
def sB(E:fm)(q:aE)(σ:St):aE->ay Ck->ay AV->aC (ay AA×ay aE×ay aE)
 |_,_,[]=>ah ([],[],[])
 |j,ks,a::r=>match yX E (E.om q j) σ (ks.headD .o) a,sB E q σ (j+1) ks.tail r with
  |some (x,l,m),ah (xs,ls,ms)=>ah (x::xs,l++ls,m++ms)
  |_,_=>aj
def Lb(E:fm)(q:aE)(σ:St)(ks:ay Ck)(v:SV):aC (eQ×ay aE×ay aE):=
 match v with
 | .v ak [.bp nm 0]=>match σ (cR nm)with
  | .o (.box xs)=>match sB E q σ 0 [] xs with|some (l,ns,ms)=>ah (.pt l,nm::ns,ms)|none=>aj
  |_=>aj
 | .v agg xs=>match sB E q σ 0 ks xs with|some (l,ns,ms)=>ah (.v agg l,ns,ms)|none=>aj
 |_=>aj
def RZ(E:fm)(q:aE)(σ:St)(r:ResultVar)(t:aE):aC (eQ×ay aE×ay aE):=
 match E.ty t with
 |none=>aj
 |some ti=>match r with
  | .tmp s=>Lb E q σ ti.ks (slot σ s)
  | .cell a t'=>match E.ty t',slot σ a with
   |some S5, .v ak [.bp nm 0]=>match σ (cR nm)with| .o (.box xs)=>bif bn xs.length S5.ks.length then Lb E q σ ti.ks (.v S5.agg xs)else aj|_=>aj
   |_,_=>aj
def BI(E:fm)(σ:St):aE->ay ResultVar->ay aE->aC (ay eQ×ay aE×ay aE)
 |_,[],_=>ah ([],[],[])
 |q,r::rs,ts=>match RZ E q σ r (ts.headD 0),BI E σ (q+1) rs ts.tail with
  |some (a,l,m),ah (as,ls,ms)=>ah (a::as,l++ls,m++ms)
  |_,_=>aj
def HS(a b:aW):aW:=bif a then b else !b
def mN(σ:St)(tk:ay aE)(nm:aE)(a:AA):AA×ay aE:=
 match a with
 | .ow e ex _=>bif lX nm tk then(.nl,[])else(match σ (cR nm)with| .o (.row e' tc xs)=>bif bn e e'&&HS ex tc then(.kp xs,[nm])else(.nl,[])|_=>(.nl,[]))
 |_=>(.nl,[])
def pe(σ:St)(tk:ay aE)(nm:aE):ay AA->ay AA×ay aE
 |[]=>([],[])|a::r=>((mN σ tk nm a).1::(pe σ tk (nm+1) r).1,(mN σ tk nm a).2++(pe σ tk (nm+1) r).2)
def X7(E:fm)(om:Om)(σ:St)(nm:aE)(b:AA)(a:AV):aC (AA×ay aE×ay aE):=
 match om,b,a with
 | .nat, .ow e ex _, .own n=>bif bn n nm then(match σ (cR n)with| .o (.row e' tc xs)=>bif bn e e'&&HS ex tc then ah (.kp xs,[n],[])else aj|_=>aj)else yX E om σ .o a
 |_,_,a=>yX E om σ .o a
def EP(E:fm)(q:aE)(σ:St):aE->ay AA->ay AV->aC (ay AA×ay aE×ay aE)
 |_,_,[]=>ah ([],[],[])
 |j,bs,a::r=>match X7 E (E.om q j) σ (dK q j) (bs.headD .nl) a,EP E q σ (j+1) bs.tail r with
  |some (x,l,m),ah (xs,ls,ms)=>ah (x::xs,l++ls,m++ms)
  |_,_=>aj
def Qp:ay AA->aW
 |[]=>ak| .ow _ _ _::_=>ai|_::r=>Qp r
def BA(E:fm)(σ:St)(tk:ay aE):aE->ay eQ->aC (ay (ay AA)×ay aE×ay aE)
 |_,[]=>ah ([],[],[])
 |p,a::r=>match BA E σ tk (p+1) r with
  |none=>aj
  |some (l,ns,ms)=>match a with
   | .v _ xs=>bif Qp xs then ah ((pe σ tk (dK p 0) xs).1::l,(pe σ tk (dK p 0) xs).2++ns,ms)else ah ([]::l,ns,ms)
   | .pt xs=>match σ (cR (dK p 900))with
    | .o (.box vs)=>match EP E p σ 0 xs vs with|some (as,ns',ms')=>ah (as::l,dK p 900::(ns'++ns),ms'++ms)|none=>aj
    |_=>aj
   | .fb _=>ah ([]::l,ns,ms)
def s_:ay (ay AA)->ay (ay AA)
 |[]=>[]
 |x::r=>match x,s_ r with|[],[]=>[]|x,r=>x::r
def fin(E:fm)(F:Func)(args:ay eQ)(e:Ex)(σ:St):aC dE:=
 match e with
 | .exit _=>aj
 |_=>match BI E σ 500 F.results.toList F.resultTypes.toList with
  |some (rs,tk,fz)=>match BA E σ (tk++fz) 0 args with
   |some (outs,ns,ms)=>bif sI (tk++ns)&&qH (tk++ns) (fz++ms)&&e9 args.length 500&&(args.all λa=>e9 (mL a) 100)&&(rs.all λa=>e9 (mL a) 100)&&(outs.all λa=>e9 a.length 100)then ah ⟨rs,s_ outs⟩else aj
   |none=>aj
  |none=>aj
def body(E:fm)(it:It dE)(F:Func)(args:ay eQ):aC dE:=
 match F.body with
 |some c=>sA E it c (inj args) (fin E F args)
 |none=>aj
end Go.FG

namespace Go.FG
structure Pl where
 nil:aW
 blk:aE
 off:aE
 cap:aE
 n:aE
 sz:aE
def kY(p:Pl):bf:=if p.nil=ai then .slice aj 0 0 else .slice (ah ⟨p.blk,p.off,aj⟩) p.n p.cap
def mY(w:bD)(b:aE)(vals:c_ bf):Prop:=
 ∃t fr,w.heap[b]? =ah (.cells vals t fr)/\∀o,o<=vals.size->(decide (fr.1<=o)&&decide (o<fr.2))=ak
def NK:CV->bf
 | .i k n=> .int k n| .b x=> .bool x| .s x=> .string x| .l _ _=> .nilIface
def Ge(x:aq):Prop:=x.size<=4611686018427387904
def okC:CV->Prop
 | .s x=>Ge x|_=>True
def Sc(u:bf)(x:CV):Prop:=u=NK x/\okC x
structure eJ where
 P:aE->Pl
 G:aE->aE->aE->Pl
 K:aE->Prop
abbrev ad(b o:aE):Addr:=⟨b,o,aj⟩
inductive cT (E:Tab) (w:bD) (K:aE->Prop):bf->CV->Prop
 |i (k n):cT E w K (.int k n) (.i k n)
 |b (x):cT E w K (.bool x) (.b x)
 |s (x) (h:Ge x):cT E w K (.string x) (.s x)
 |nl (e A c):cT E w K (.slice A 0 c) (.l e [])
 |l (e xs b o c ti) (U:aE->aE->bf) (ht:E.ty e=ah ti) (hc:xs.length<=c) (hm:c<=maxLen) (hK:K b) (hs:∀y∈xs,y.map CV.kd=ti.ks)
  (hcell:∀i j y x,xs[i]? =ah y->y[j]? =ah x->w.cell? (ad b (o+i*ti.ks.length+j))=ah (U i j))
  (g9:∀i j y x,xs[i]? =ah y->y[j]? =ah x->cT E w K (U i j) x):cT E w K (.slice (ah (ad b o)) xs.length c) (.l e xs)
theorem mY.cell{w:bD}{b:aE}{vals:c_ bf}(h:mY w b vals)(o:aE):w.cell? (ad b o)=vals[o]? :=by obtain⟨t,fr,h,_⟩:=h;simp[World.cell?,h]
theorem mY.lt{w:bD}{b:aE}{vals:c_ bf}(h:mY w b vals):b<w.heap.size:=by obtain⟨t,fr,h,_⟩:=h;exact(dL.1 h).1
theorem mY.free{w:bD}{b:aE}{vals:c_ bf}(h:mY w b vals){o:aE}(ho:o<vals.size):w.frozen? (ad b o)=false:=by obtain⟨t,fr,h,hf⟩:=h;have:=hf o (Nat.le_of_lt ho);simpa [XD,h]using this
theorem mY.frame{w w':bD}{b:aE}{vals:c_ bf}(h:mY w b vals)(e:w'.heap[b]? =w.heap[b]?):mY w' b vals:=by obtain⟨t,fr,h,hf⟩:=h;exact⟨t,fr,e.trans h,hf⟩
theorem cT.frame{E:Tab}{w w':bD}{K K':aE->Prop}{v:bf}{x:CV}(h:cT E w K v x)(hw:∀b,K b->w'.heap[b]? =w.heap[b]?)(hK:∀b,K b->K' b):cT E w' K' v x:=by
 induction h with
 |i=>exact .i _ _
 |b=>exact .b _
 |s x h=>exact .s _ h
 |nl=>exact .nl _ _ _
 |l e xs b o c ti U ht hc hm hKb hs hcell g9 ih=>exact .l e xs b o c ti U ht hc hm (hK b hKb) hs (λi j y x h1 h2=>(tJ (a:=ad b _) (hw b hKb)).trans (hcell i j y x h1 h2)) (λi j y x h1 h2=>ih i j y x h1 h2)
structure iP (w:bD) (p:Pl) (xs:aU) (R:aE->aE->bf->CV->Prop):Prop where
 n:p.n=xs.length
 nil:p.nil=ai->xs=[]/\p.cap=0
 mem:p.nil=ak->∃vals,mY w p.blk vals/\p.n<=p.cap/\p.cap<=maxLen/\p.off+p.cap*p.sz<=vals.size/\
  ∀(i:aE) (y:ay CV) (j:aE) (x:CV),xs[i]? =ah y->y[j]? =ah x->∃u:bf,vals[p.off+i*p.sz+j]? =ah u/\R i j u x
def XC(E:Tab)(w:bD)(G:aE->aE->Pl)(i j:aE)(u:bf):CV->Prop
 | .l e ys=>u=kY (G i j)/\∃ti,E.ty e=ah ti/\plain ti.ks=ai/\(G i j).sz=ti.ks.length/\(∀y∈ys,y.map CV.kd=ti.ks)/\iP w (G i j) ys (λ_ _ u x=>Sc u x)
 |x=>Sc u x
def tf:CV->aW| .l _ _=>ai|_=>ak
def fP(xs:aU)(i j:aE):Prop:=∃y x,xs[i]? =ah y/\y[j]? =ah x/\tf x=ai
structure D3 (p:Pl) (G:aE->aE->Pl) (xs:aU):Prop where
 out:∀i j,fP xs i j->(G i j).nil=ak->p.nil=ak->(G i j).blk≠p.blk
 one:∀i j i' j',fP xs i j->fP xs i' j'->(G i j).nil=ak->(G i' j').nil=ak->(G i j).blk=(G i' j').blk->i=i'/\j=j'
structure KG (E:Tab) (w:bD) (c:eJ) (nm e:aE) (ex:aW) (xs:aU):Prop where
 sh:∃ti,E.ty e=ah ti/\(c.P nm).sz=ti.ks.length/\∀y∈xs,y.map CV.kd=ti.ks
 at_:iP w (c.P nm) xs (λi j u x=>if ex=ai then XC E w (c.G nm) i j u x else cT E w c.K u x)
 inn:ex=ai->D3 (c.P nm) (c.G nm) xs
def FB(E:Tab)(w:bD)(K:aE->Prop)(b:aE)(cs:ay CV):Prop:=
 K b/\∀(q:aE) (x:CV),cs[q]? =ah x->∃u:bf,w.cell? (ad b q)=ah u/\cT E w K u x
def uT(p:Pl)(lo hi:aE)(v:bf):Prop:=
 lo<=hi/\hi<=p.n/\(p.nil=ai->v= .slice aj 0 0)/\
 (p.nil=ak->(lo<p.cap/\v= .slice (ah (ad p.blk (p.off+lo*p.sz))) (hi-lo) (p.cap-lo))\/(lo=p.cap/\∃o,o<=p.off+p.cap*p.sz/\v= .slice (ah (ad p.blk o)) 0 0))
def ea(E:Tab)(w:bD)(c:eJ):AV->bf->Prop
 | .i k n,v=>v= .int k n
 | .b x,v=>v= .bool x
 | .s x,v=>v= .string x/\Ge x
 | .sh e xs,v=>cT E w c.K v (.l e xs)
 | .nl,v=>v= .slice aj 0 0
 | .own nm,v=>v=kY (c.P nm)
 | .vw nm lo hi,v=>uT (c.P nm) lo hi v
 | .bp nm j,v=>v= .pointer (ah (ad (c.P nm).blk j))
 | .rp nm i j,v=>i<(c.P nm).n/\v= .pointer (ah (ad (c.P nm).blk ((c.P nm).off+i*(c.P nm).sz+j)))
 | .sp e xs i j,v=>∃b o cp ti,cT E w c.K (.slice (ah (ad b o)) xs.length cp) (.l e xs)/\i<xs.length/\E.ty e=ah ti/\v= .pointer (ah (ad b (o+i*ti.ks.length+j)))
 | .inn nm i j,v=>(i<(c.P nm).n/\v=kY (c.G nm i j))/\vl nm=ak
 | .ip nm i j i2 j2,v=>(i<(c.P nm).n/\i2<(c.G nm i j).n/\v= .pointer (ah (ad (c.G nm i j).blk ((c.G nm i j).off+i2*(c.G nm i j).sz+j2))))/\vl nm=ak
 | .iv nm i j lo hi,v=>(i<(c.P nm).n/\uT (c.G nm i j) lo hi v)/\vl nm=ak
 | .fn f iC,v=>∃ps:c_ bf,v= .func (.func f) #[] ps/\ps.size=iC.length/\∀(q:aE) (cs:ay CV),iC[q]? =ah cs->∃b:aE,ps[q]? =ah (.pointer (ah (ad b 0)))/\FB E w c.K b cs
 | .fp cs j,v=>∃b,v= .pointer (ah (ad b j))/\FB E w c.K b cs
def pD(E:Tab)(w:bD)(c:eJ)(agg:aW)(xs:ay AV)(v:bf):Prop:=
 match agg,xs with
 |false,[a]=>ea E w c a v
 |true,xs=>∃vals:c_ bf,v= .agg vals/\vals.size=xs.length/\∀(j:aE) (a:AV),xs[j]? =ah a->∃u:bf,vals[j]? =ah u/\ea E w c a u
 |_,_=>False
def iW(E:Tab)(w:bD)(c:eJ):SV->bf->Prop
 | .v agg xs,v=>pD E w c agg xs v
 | .jE l,v=>∃vs:c_ bf,v= .tuple vs/\vs.size=l.length/\∀(j:aE) (agg:aW) (xs:ay AV),l[j]? =ah (agg,xs)->∃u:bf,vs[j]? =ah u/\pD E w c agg xs u
 | .un,_=>True
def o7(E:Tab)(w:bD)(c:eJ)(nm:aE):Obj->Prop
 | .box xs=>∃vals,mY w (c.P nm).blk vals/\vals.size=xs.length/\∀(j:aE) (a:AV),xs[j]? =ah a->∃u:bf,vals[j]? =ah u/\ea E w c a u
 | .nB cs=>FB E w c.K (c.P nm).blk cs
 | .row e ex xs=>KG E w c nm e ex xs
 | .fE e xs=>cT E w c.K (kY (c.P nm)) (.l e xs)/\(c.P nm).n=xs.length/\∃ti,E.ty e=ah ti/\(c.P nm).sz=ti.ks.length
 | .dead=>True
def e8(c:eJ)(nm:aE):Obj->aE->Prop
 | .box _,b=>b=(c.P nm).blk
 | .row _ ex xs,b=>((c.P nm).nil=ak/\b=(c.P nm).blk)\/(ex=ai/\∃i j,fP xs i j/\(c.G nm i j).nil=ak/\b=(c.G nm i j).blk)
 |_,_=>False
def uJ(σ:St)(c:eJ)(b:aE):Prop:=∃nm o,σ (cR nm)= .o o/\e8 c nm o b
def iV(σ:St)(a:AV):Prop:=∀n∈bE a,σ (cR n)≠ .jq
def l_(σ:St)(v:SV):Prop:=∀n∈cw v,σ (cR n)≠ .jq
structure Ok (E:Tab) (σ:St) (w:bD) (c:eJ):Prop where
 obj:∀nm o,σ (cR nm)= .o o->o7 E w c nm o
 sep:∀nm o wb o' b,σ (cR nm)= .o o->σ (cR wb)= .o o'->e8 c nm o b->e8 c wb o' b->nm=wb
 kk:∀nm o b,σ (cR nm)= .o o->e8 c nm o b->¬c.K b
 lt:∀b,c.K b->b<w.heap.size
 kn:∀nm xs,σ (cR nm)= .o (.box xs)->∀a∈xs,iV σ a
 gp:E.gp.f w c.K
structure eS (E:Tab) (σ:St) (a:Act) (w:bD) (c:eJ):Prop where
 ok:∀n,iW E w c (slot σ n) (a.eval (.tmp n))
 kn:∀n,l_ σ (slot σ n)
 df:a.defers=[]
def ji(σ:St)(c c':eJ):Prop:=∀nm,(σ (cR nm)≠ .jq\/900000000<=nm)->c'.P nm=c.P nm/\c'.G nm=c.G nm
def pq(σ:St)(c c':eJ):Prop:=∀nm,(σ (cR nm)≠ .jq\/900000000<=nm)->c'.P nm=c.P nm/\(vl nm=ak->c'.G nm=c.G nm)
theorem ji.w{σ:St}{c c':eJ}(h:ji σ c c'):pq σ c c':=λnm hn=>⟨(h nm hn).1,λ_=>(h nm hn).2⟩
structure nO (σ:St) (c:eJ) (w:bD) (σ':St) (c':eJ) (w':bD):Prop where
 os:w'.os=w.os
 tape:w'.tape=w.tape
 output:w'.output=w.output
 size:w.heap.size<=w'.heap.size
 K:∀b,c.K b->c'.K b
 same:∀b,b<w.heap.size->¬uJ σ c b->w'.heap[b]? =w.heap[b]?
 own:∀b,uJ σ' c' b->uJ σ c b\/w.heap.size<=b
 kn:∀b,c'.K b->c.K b\/uJ σ c b\/w.heap.size<=b
theorem uJ.lt{E:Tab}{σ:St}{w:bD}{c:eJ}(h:Ok E σ w c){b:aE}(ho:uJ σ c b):b<w.heap.size:=by
 obtain⟨nm,o,h1,h2⟩:=ho;have mh:=h.obj nm o h1;cases o with
 |box xs=>obtain⟨vals,hb,_⟩:=mh;cases h2;exact hb.lt
 |nB=>exact h2.elim
 |fE=>exact h2.elim
 |dead=>exact h2.elim
 |row e ex xs=>
  rcases h2 with ⟨hn,rfl⟩|⟨hex,i,j,⟨y,x,hy,hx,hl⟩,hn,rfl⟩
  ·obtain⟨vals,hb,_⟩:=mh.at_.mem hn;exact hb.lt
  ·by_cases hp:(c.P nm).nil=ai
   ·have:=(mh.at_.nil hp).1;subst this;simp at hy
   ·obtain⟨vals,hb,_,_,_,hc⟩:=mh.at_.mem (by simpa using hp);obtain⟨u,_,hu⟩:=hc i y j x hy hx;rw[bw hex]at hu;cases x with
    |l e2 ys=>obtain⟨_,ti,_,_,_,_,hr⟩:=hu;obtain⟨v2,Dw,_⟩:=hr.mem hn;exact Dw.lt
    |i=>simp[tf]at hl
    |b=>simp[tf]at hl
    |s=>simp[tf]at hl
theorem Ok.Fp{E:Tab}{σ:St}{w:bD}{c:eJ}(h:Ok E σ w c){b:aE}(ho:uJ σ c b):¬c.K b:=by obtain⟨nm,o,h1,h2⟩:=ho;exact h.kk nm o b h1 h2
theorem nO.refl(σ:St)(c:eJ)(w:bD):nO σ c w σ c w:=
 ⟨rfl,rfl,rfl,cu _,λ_ h=>h,λ_ _ _=>rfl,λ_ h=> .inl h,λ_ h=> .inl h⟩
theorem nO.trans{σ σ1 σ2:St}{c c1 c2:eJ}{w w1 w2:bD}(h:nO σ c w σ1 c1 w1)(k:nO σ1 c1 w1 σ2 c2 w2):nO σ c w σ2 c2 w2 where
 os:=k.os.trans h.os
 tape:=k.tape.trans h.tape
 output:=k.output.trans h.output
 size:=c6 h.size k.size
 K b hb:=k.K b (h.K b hb)
 same b hb hn:=(k.same b (ig hb h.size) (λho=>(h.own b ho).elim hn (λh=>by omega))).trans (h.same b hb hn)
 own b hb:=(k.own b hb).elim (h.own b) (λh1=> .inr (c6 h.size h1))
 kn b hb:=by
  rcases k.kn b hb with h1|h1|h1
  ·exact h.kn b h1
  ·exact .inr (h.own b h1)
  ·exact .inr (.inr (c6 h.size h1))
theorem nO.XF{E:Tab}{σ σ':St}{c c':eJ}{w w':bD}(b7:Ok E σ w c)(h:nO σ c w σ' c' w'):∀b,c.K b->w'.heap[b]? =w.heap[b]? :=
 λb hb=>h.same b (b7.lt b hb) (λho=>b7.Fp ho hb)
theorem FB.frame{E:Tab}{w w':bD}{K K':aE->Prop}{b:aE}{cs:ay CV}(h:FB E w K b cs)(hw:∀b,K b->w'.heap[b]? =w.heap[b]?)(hK:∀b,K b->K' b):FB E w' K' b cs:=
 ⟨hK b h.1,λq x hq=>by
  obtain⟨u,hu,hh⟩:=h.2 q x hq;exact⟨u,(tJ (a:=ad b q) (hw b h.1)).trans hu,hh.frame hw hK⟩⟩
theorem ea.oD{E:Tab}{w w':bD}{c c':eJ}{a:AV}{v:bf}(h:ea E w c a v)(hw:∀b,c.K b->w'.heap[b]? =w.heap[b]?)(hK:∀b,c.K b->c'.K b)
  (hP:∀n∈bE a,c'.P n=c.P n/\(vl n=ak->c'.G n=c.G n)):ea E w' c' a v:=by
 cases a with
 |i=>exact h
 |b=>exact h
 |s=>exact h
 |nl=>exact h
 |sh e xs=>exact cT.frame h hw hK
 |own n=>have:=hP n (by simp[bE]);simp only[ea,this.1]at h⊢;exact h
 |vw n lo hi=>have:=hP n (by simp[bE]);simp only[ea,this.1]at h⊢;exact h
 |bp n j=>have:=hP n (by simp[bE]);simp only[ea,this.1]at h⊢;exact h
 |rp n i j=>have:=hP n (by simp[bE]);simp only[ea,this.1]at h⊢;exact h
 |inn n i j=>have h0:=hP n (by simp[bE]);have this:=h0.2 h.2;simp only[ea,h0.1,this]at h⊢;exact h
 |ip n i j i2 j2=>have h0:=hP n (by simp[bE]);have this:=h0.2 h.2;simp only[ea,h0.1,this]at h⊢;exact h
 |iv n i j lo hi=>have h0:=hP n (by simp[bE]);have this:=h0.2 h.2;simp only[ea,h0.1,this]at h⊢;exact h
 |sp e xs i j=>obtain⟨b,o,cp,ti,h1,h2,h3,h4⟩:=h;exact⟨b,o,cp,ti,h1.frame hw hK,h2,h3,h4⟩
 |fn f iC=>obtain⟨ps,h1,h2,h3⟩:=h;exact⟨ps,h1,h2,λq cs hq=>by obtain⟨b,hb,hf⟩:=h3 q cs hq;exact⟨b,hb,hf.frame hw hK⟩⟩
 |fp cs j=>obtain⟨b,h1,h2⟩:=h;exact⟨b,h1,h2.frame hw hK⟩
theorem pD.oD{E:Tab}{w w':bD}{c c':eJ}{agg:aW}{xs:ay AV}{v:bf}(h:pD E w c agg xs v)(hw:∀b,c.K b->w'.heap[b]? =w.heap[b]?)(hK:∀b,c.K b->c'.K b)
  (hP:∀n∈xs.flatMap bE,c'.P n=c.P n/\(vl n=ak->c'.G n=c.G n)):pD E w' c' agg xs v:=by
 unfold pD at h⊢;split at h
 ·rename_i a;exact ea.oD h hw hK (λn hn=>hP n (by simpa using hn))
 ·obtain⟨vals,h1,h2,h3⟩:=h;refine⟨vals,h1,h2,λj a hj=> ?_⟩
  obtain⟨u,hu,hv⟩:=h3 j a hj;exact⟨u,hu,hv.oD hw hK (λn hn=>hP n (bG.2 ⟨a,aP hj,hn⟩))⟩
 ·exact h.elim
theorem iW.oD{E:Tab}{w w':bD}{c c':eJ}{s:SV}{v:bf}(h:iW E w c s v)(hw:∀b,c.K b->w'.heap[b]? =w.heap[b]?)(hK:∀b,c.K b->c'.K b)
  (hP:∀n∈cw s,c'.P n=c.P n/\(vl n=ak->c'.G n=c.G n)):iW E w' c' s v:=by
 cases s with
 |un=>trivial
 |v agg xs=>exact pD.oD h hw hK hP
 |jE l=>
  obtain⟨vs,h1,h2,h3⟩:=h;refine⟨vs,h1,h2,λj agg xs hj=> ?_⟩
  obtain⟨u,hu,hv⟩:=h3 j agg xs hj;exact⟨u,hu,hv.oD hw hK (λn hn=>hP n (bG.2 ⟨(agg,xs),aP hj,hn⟩))⟩
theorem ea.frame{E:Tab}{w w':bD}{c c':eJ}{a:AV}{v:bf}(h:ea E w c a v)(hw:∀b,c.K b->w'.heap[b]? =w.heap[b]?)(hK:∀b,c.K b->c'.K b)
  (hP:∀n∈bE a,c'.P n=c.P n/\c'.G n=c.G n):ea E w' c' a v:=h.oD hw hK (λn hn=>⟨(hP n hn).1,λ_=>(hP n hn).2⟩)
theorem pD.frame{E:Tab}{w w':bD}{c c':eJ}{agg:aW}{xs:ay AV}{v:bf}(h:pD E w c agg xs v)(hw:∀b,c.K b->w'.heap[b]? =w.heap[b]?)(hK:∀b,c.K b->c'.K b)
  (hP:∀n∈xs.flatMap bE,c'.P n=c.P n/\c'.G n=c.G n):pD E w' c' agg xs v:=h.oD hw hK (λn hn=>⟨(hP n hn).1,λ_=>(hP n hn).2⟩)
theorem iW.frame{E:Tab}{w w':bD}{c c':eJ}{s:SV}{v:bf}(h:iW E w c s v)(hw:∀b,c.K b->w'.heap[b]? =w.heap[b]?)(hK:∀b,c.K b->c'.K b)
  (hP:∀n∈cw s,c'.P n=c.P n/\c'.G n=c.G n):iW E w' c' s v:=h.oD hw hK (λn hn=>⟨(hP n hn).1,λ_=>(hP n hn).2⟩)
theorem iP.frame{w w':bD}{p:Pl}{xs:aU}{R R':aE->aE->bf->CV->Prop}(h:iP w p xs R)(hw:p.nil=ak->w'.heap[p.blk]? =w.heap[p.blk]?)
  (hR:∀i j y x u,xs[i]? =ah y->y[j]? =ah x->R i j u x->R' i j u x):iP w' p xs R' where
 n:=h.n
 nil:=h.nil
 mem hn:=by
  obtain⟨vals,h1,h2,h3,h4,h5⟩:=h.mem hn;refine⟨vals,h1.frame (hw hn),h2,h3,h4,λi y j x hi hj=> ?_⟩
  obtain⟨u,hu,hr⟩:=h5 i y j x hi hj;exact⟨u,hu,hR i j y x u hi hj hr⟩
theorem XC.frame{E:Tab}{w w':bD}{G:aE->aE->Pl}{i j:aE}{u:bf}{x:CV}(h:XC E w G i j u x)(hw:tf x=ai->(G i j).nil=ak->w'.heap[(G i j).blk]? =w.heap[(G i j).blk]?):XC E w' G i j u x:=by
 cases x with
 |l e ys=>obtain⟨h1,ti,h2,h3,h4,h5,h6⟩:=h;exact⟨h1,ti,h2,h3,h4,h5,h6.frame (hw rfl) (λ_ _ _ _ _ _ _ h=>h)⟩
 |i=>exact h
 |b=>exact h
 |s=>exact h
theorem o7.frame{E:Tab}{w w':bD}{c c':eJ}{nm:aE}{o:Obj}(h:o7 E w c nm o)(hw:∀b,c.K b->w'.heap[b]? =w.heap[b]?)(hK:∀b,c.K b->c'.K b)
  (hf:∀b,e8 c nm o b->w'.heap[b]? =w.heap[b]?) (hP:c'.P nm=c.P nm/\c'.G nm=c.G nm)
  (hPs:∀xs,o= .box xs->∀a∈xs,∀n∈bE a,c'.P n=c.P n/\(vl n=ak->c'.G n=c.G n)):o7 E w' c' nm o:=by
 cases o with
 |dead=>trivial
 |box xs=>
  obtain⟨vals,h1,h2,h3⟩:=h;refine⟨vals, ?_,h2,λj a hj=> ?_⟩
  ·rw[hP.1];exact h1.frame (hf _ rfl)
  ·obtain⟨u,hu,hv⟩:=h3 j a hj;exact⟨u,hu,hv.oD hw hK (hPs xs rfl a (aP hj))⟩
 |nB cs=>show FB E w' c'.K (c'.P nm).blk cs;rw[hP.1];exact FB.frame h hw hK
 |fE e xs=>
  obtain⟨h1,h2,h3⟩:=h;refine⟨?_, ?_, ?_⟩
  ·rw[hP.1];exact h1.frame hw hK
  ·rw[hP.1];exact h2
  ·rw[hP.1];exact h3
 |row e ex xs=>
  obtain⟨h1,h2,h3⟩:=h;refine⟨by rw[hP.1];exact h1, ?_,by rw[hP.1,hP.2];exact h3⟩
  rw[hP.1,hP.2];refine h2.frame (λhn=>hf _ (.inl ⟨hn,rfl⟩)) (λi j y x u hi hj hr=> ?_);by_cases hx:ex=ai
  ·rw[bw hx]at hr⊢;exact hr.frame (λhl hn=>hf _ (.inr ⟨hx,i,j,⟨y,x,hi,hj,hl⟩,hn,rfl⟩))
  ·rw[bH hx]at hr⊢;exact hr.frame hw hK
end Go.FG

namespace Go.FG
theorem sS(s:St)(k:aE)(c:eA):oe s k c k=c:=by simp[oe]
theorem yI(s:St){k n:aE}(c:eA)(h:n≠k):oe s k c n=s n:=by
 have:bn n k=false:=by
  cases hb:bn n k with
  |false=>rfl
  |true=>exact cE (aR hb) h
 simp[oe,this]
theorem qY(n m:aE):pJ n≠cR m:=by unfold pJ cR;omega
theorem lK(n m:aE):cR n≠pJ m:=by unfold pJ cR;omega
theorem FL{n m:aE}(h:pJ n=pJ m):n=m:=by unfold pJ at h;omega
theorem jw{n m:aE}(h:cR n=cR m):n=m:=by unfold cR at h;omega
theorem H8(s:St)(d:aE)(c:eA)(m:aE):oe s (pJ d) c (cR m)=s (cR m):=yI s c (lK m d)
theorem nY(s:St)(n:aE)(c:eA)(m:aE):oe s (cR n) c (cR m)=if m=n then c else s (cR m):=by
 by_cases h:m=n
 ·subst h;simp[sS]
 ·rw[bH h];exact yI s c (λe=>h (jw e))
theorem iz(s:St)(n:aE)(c:eA)(m:aE):slot (oe s (cR n) c) m=slot s m:=by unfold slot;rw[yI s c (qY m n)]
theorem wy(s:St)(d:aE)(v:SV)(m:aE):slot (oe s (pJ d) (.v v)) m=if m=d then v else slot s m:=by
 by_cases h:m=d
 ·subst h;simp[slot,sS]
 ·rw[bH h];unfold slot;rw[yI s _ (λe=>h (FL e))]
theorem NN(s:St)(l r:ay (aE×eA)):wr s (l++r)=wr (wr s l) r:=by
 induction l generalizing s with
 |nil=>rfl
 |cons a l ih=>obtain⟨k,c⟩:=a;exact ih _
def Rd.val{α:Type}(m:Rd α)(σ:St):aC α:=(m.run σ []).map (·.1)
theorem kI{α:Type}(m:Rd α)(σ:St):∀l,(m.run σ l).map (·.1)=m.val σ:=by
 induction m with
 |ret a=>intro l;rfl
 |fail=>intro l;rfl
 |get k f ih=>intro l;simp only[Rd.run,Rd.val];rw[ih,ih]
theorem Rd.Ki{α:Type}{m:Rd α}{σ:St}{l l':ay aE}{a:α}(h:m.run σ l=ah (a,l')):m.val σ=ah a:=by rw[<-kI m σ l,h];rfl
@[simp] theorem Rd.aj1 {α:Type} (a:α) (σ:St):(Rd.ret a).val σ=some a:=rfl
@[simp] theorem Rd.aiN {α:Type} (σ:St):(Rd.fail:Rd α).val σ=none:=rfl
@[simp] theorem Rd.Af {α:Type} (k:Nat) (f:eA->Rd α) (σ:St):(Rd.get k f).val σ=(f (σ k)).val σ:=by
 simp only[Rd.val,Rd.run];exact(kI (f (σ k)) σ [k])
@[simp] theorem Rd.S7 {α β:Type} (m:Rd α) (f:α->Rd β) (σ:St):(m.bind f).val σ=(m.val σ).bind λa=>(f a).val σ:=by
 induction m with
 |ret a=>rfl
 |fail=>rfl
 |get k g ih=>simp only[Rd.bind,Rd.Af];exact ih _
theorem Rd.bind_some{α β:Type}{m:Rd α}{f:α->Rd β}{σ:St}{b:β}(h:(m.bind f).val σ=ah b):∃a,m.val σ=ah a/\(f a).val σ=ah b:=by rw[Rd.S7,Option.bind_eq_some_iff]at h;exact h
theorem cy{α:Type}{b:aW}{m:Rd α}{σ:St}{a:α}(h:(bif b then m else Rd.fail).val σ=ah a):b=ai/\m.val σ=ah a:=by
 cases b with
 |true=>exact⟨rfl,h⟩
 |false=>simp at h
def jA(Ch:aE->Prop)(σ:St)(c:eJ)(b:aE):Prop:=∃nm o,Ch nm/\σ (cR nm)= .o o/\e8 c nm o b
theorem jA.own{Ch:aE->Prop}{σ:St}{c:eJ}{b:aE}(h:jA Ch σ c b):uJ σ c b:=by obtain⟨nm,o,_,h1,h2⟩:=h;exact⟨nm,o,h1,h2⟩
theorem lJ{c c':eJ}{nm:aE}{o:Obj}(h:c'.P nm=c.P nm/\c'.G nm=c.G nm)(b:aE):e8 c' nm o b=e8 c nm o b:=by cases o<;>simp only[e8,h.1,h.2]
theorem Ok.qK{E:Tab}{σ σ':St}{w w':bD}{c c':eJ}(h:Ok E σ w c)(Ch:aE->Prop)
  (hσ:∀nm,¬Ch nm->σ' (cR nm)=σ (cR nm)) (il:∀nm,σ (cR nm)≠ .jq->σ' (cR nm)≠ .jq) (hA:pq σ c c') (hAG:∀nm,¬Ch nm->σ (cR nm)≠ .jq->c'.G nm=c.G nm)
  (hW:∀b,b<w.heap.size->¬jA Ch σ c b->w'.heap[b]? =w.heap[b]?) (fH:w.heap.size<=w'.heap.size)
  (hK:∀b,c.K b->c'.K b) (TH:∀b,c'.K b->c.K b\/jA Ch σ c b\/w.heap.size<=b) (E4:∀b,c'.K b->b<w'.heap.size)
  (mh:∀nm o,Ch nm->σ' (cR nm)= .o o->o7 E w' c' nm o)
  (pd:∀nm o b,Ch nm->σ' (cR nm)= .o o->e8 c' nm o b->(jA Ch σ c b\/w.heap.size<=b)/\¬c'.K b)
  (QD:∀nm o wb o' b,Ch nm->Ch wb->σ' (cR nm)= .o o->σ' (cR wb)= .o o'->e8 c' nm o b->e8 c' wb o' b->nm=wb)
  (He:∀nm xs,Ch nm->σ' (cR nm)= .o (.box xs)->∀a∈xs,iV σ' a)
  (M8:w'.os=w.os) (QE:w'.tape=w.tape) (ace:w'.output=w.output):Ok E σ' w' c'/\nO σ c w σ' c' w':=by
 have LD:∀nm o b,¬Ch nm->σ (cR nm)= .o o->e8 c nm o b->¬jA Ch σ c b:=by intro nm o b hc ho hf ⟨gA,o2,hc2,ho2,hf2⟩;exact hc (h.sep nm o gA o2 b ho ho2 hf hf2▸hc2)
 have agr:∀nm o,¬Ch nm->σ' (cR nm)= .o o->σ (cR nm)= .o o/\(c'.P nm=c.P nm/\c'.G nm=c.G nm):=by intro nm o hc ho;rw[hσ nm hc]at ho;exact⟨ho,(hA nm (.inl (by rw[ho];simp))).1,hAG nm hc (by rw[ho];simp)⟩
 have Zb:∀b,c.K b->w'.heap[b]? =w.heap[b]? :=λb hb=>hW b (h.lt b hb) (λhi=>h.Fp hi.own hb);have lt:∀nm o b,σ (cR nm)= .o o->e8 c nm o b->b<w.heap.size:=λnm o b ho hf=>uJ.lt h ⟨nm,o,ho,hf⟩;refine⟨⟨?_, ?_, ?_,E4, ?_,E.gp.fr h.gp Zb hK⟩,⟨M8,QE,ace,fH,hK, ?_, ?_, ?_⟩⟩
 ·intro nm o ho;by_cases hc:Ch nm
  ·exact mh nm o hc ho
  ·obtain⟨uj,ha⟩:=agr nm o hc ho;refine(h.obj nm o uj).frame Zb hK (λb hb=>hW b (lt nm o b uj hb) (LD nm o b hc uj hb)) ha ?_;intro xs hx a hm n hn;exact hA n (.inl (h.kn nm xs (hx▸uj) a hm n hn))
 ·intro nm o wb o' b ho uj hf vZ;by_cases hc:Ch nm
  ·by_cases G_:Ch wb
   ·exact QD nm o wb o' b hc G_ ho uj hf vZ
   ·obtain⟨h1,ha⟩:=agr wb o' G_ uj;rw[lJ ha]at vZ;rcases(pd nm o b hc ho hf).1 with hi|hi
    ·exact cE hi (LD wb o' b G_ h1 vZ)
    ·have:=lt wb o' b h1 vZ;omega
  ·obtain⟨h1,ha⟩:=agr nm o hc ho;rw[lJ ha]at hf;by_cases G_:Ch wb
   ·rcases(pd wb o' b G_ uj vZ).1 with hi|hi
    ·exact cE hi (LD nm o b hc h1 hf)
    ·have:=lt nm o b h1 hf;omega
   ·obtain⟨h2,ha'⟩:=agr wb o' G_ uj;rw[lJ ha']at vZ;exact h.sep nm o wb o' b h1 h2 hf vZ
 ·intro nm o b ho hf;by_cases hc:Ch nm
  ·exact(pd nm o b hc ho hf).2
  ·obtain⟨h1,ha⟩:=agr nm o hc ho;rw[lJ ha]at hf;intro hk;rcases TH b hk with h2|h2|h2
   ·exact h.kk nm o b h1 hf h2
   ·exact LD nm o b hc h1 hf h2
   ·have:=lt nm o b h1 hf;omega
 ·intro nm xs ho a hm;by_cases hc:Ch nm
  ·exact He nm xs hc ho a hm
  ·obtain⟨h1,_⟩:=agr nm _ hc ho;intro n hn;exact il n (h.kn nm xs h1 a hm n hn)
 ·intro b hb hn;exact hW b hb (λhi=>hn hi.own)
 ·rintro b ⟨nm,o,ho,hf⟩;by_cases hc:Ch nm
  ·exact(pd nm o b hc ho hf).1.imp jA.own id
  ·obtain⟨h1,ha⟩:=agr nm o hc ho;rw[lJ ha]at hf;exact .inl ⟨nm,o,h1,hf⟩
 ·intro b hb;rcases TH b hb with h2|h2|h2
  ·exact .inl h2
  ·exact .inr (.inl h2.own)
  ·exact .inr (.inr h2)
theorem Ok.change{E:Tab}{σ σ':St}{w w':bD}{c c':eJ}(h:Ok E σ w c)(Ch:aE->Prop)
  (hσ:∀nm,¬Ch nm->σ' (cR nm)=σ (cR nm)) (il:∀nm,σ (cR nm)≠ .jq->σ' (cR nm)≠ .jq) (hA:ji σ c c')
  (hW:∀b,b<w.heap.size->¬jA Ch σ c b->w'.heap[b]? =w.heap[b]?) (fH:w.heap.size<=w'.heap.size)
  (hK:∀b,c.K b->c'.K b) (TH:∀b,c'.K b->c.K b\/jA Ch σ c b\/w.heap.size<=b) (E4:∀b,c'.K b->b<w'.heap.size)
  (mh:∀nm o,Ch nm->σ' (cR nm)= .o o->o7 E w' c' nm o)
  (pd:∀nm o b,Ch nm->σ' (cR nm)= .o o->e8 c' nm o b->(jA Ch σ c b\/w.heap.size<=b)/\¬c'.K b)
  (QD:∀nm o wb o' b,Ch nm->Ch wb->σ' (cR nm)= .o o->σ' (cR wb)= .o o'->e8 c' nm o b->e8 c' wb o' b->nm=wb)
  (He:∀nm xs,Ch nm->σ' (cR nm)= .o (.box xs)->∀a∈xs,iV σ' a)
  (M8:w'.os=w.os) (QE:w'.tape=w.tape) (ace:w'.output=w.output):Ok E σ' w' c'/\nO σ c w σ' c' w':=
 h.qK Ch hσ il hA.w (λnm _ hn=>(hA nm (.inl hn)).2) hW fH hK TH E4 mh pd QD He M8 QE ace
theorem Ok.slot{E:Tab}{σ σ':St}{w:bD}{c:eJ}(h:Ok E σ w c)(hσ:∀nm,σ' (cR nm)=σ (cR nm)):Ok E σ' w c/\nO σ c w σ' c w:=by
 refine⟨⟨λnm o ho=>h.obj nm o (hσ nm▸ho),λnm o wb o' b h1 h2=>h.sep nm o wb o' b (hσ nm▸h1) (hσ wb▸h2),λnm o b h1=>h.kk nm o b (hσ nm▸h1),h.lt,λnm xs ho a hm n hn=>by rw[hσ];exact h.kn nm xs (hσ nm▸ho) a hm n hn,h.gp⟩,
  ⟨rfl,rfl,rfl,cu _,λ_ h=>h,λ_ _ _=>rfl,λb ⟨nm,o,ho,hf⟩=> .inl ⟨nm,o,hσ nm▸ho,hf⟩,λ_ h=> .inl h⟩⟩
theorem CB(a:Act)(d:aE)(v:bf)(h:d<a.tmps.size):(a.put (ah d) v).eval (.tmp d)=v:=by simp[Tm,Gk,h]
theorem GZ(a:Act)(d n:aE)(v:bf)(h:n≠d):(a.put (ah d) v).eval (.tmp n)=a.eval (.tmp n):=by simp only[Tm,Gk,ej,nF];rw[bH (λe=>h e.symm)]
theorem eS.qK{E:Tab}{σ σ':St}{a:Act}{w w':bD}{c c':eJ}(h:eS E σ a w c)(b7:Ok E σ w c)(hG:nO σ c w σ' c' w')(hA:pq σ c c')(il:∀nm,σ (cR nm)≠ .jq->σ' (cR nm)≠ .jq)
  (o:eV) (v:bf) (hs:∀n,o.dst≠ah n->slot σ' n=slot σ n) (hd:∀d,o.dst=ah d->d<a.tmps.size/\iW E w' c' (slot σ' d) v/\l_ σ' (slot σ' d)):eS E σ' (a.put o.dst v) w' c':=by
 have keep:∀n,iW E w' c' (slot σ n) (a.eval (.tmp n)):=λn=>(h.ok n).oD (hG.XF b7) hG.K (λm hm=>hA m (.inl (h.kn n m hm)));have Za:∀n,l_ σ' (slot σ n):=λn m hm=>il m (h.kn n m hm);cases ho:o.dst with
 |none=>
  refine⟨λn=> ?_,λn=> ?_,h.df⟩
  ·rw[hs n (by simp[ho])];exact keep n
  ·rw[hs n (by simp[ho])];exact Za n
 |some d=>
  obtain⟨h1,h2,h3⟩:=hd d ho;refine⟨λn=> ?_,λn=> ?_,h.df⟩
  ·by_cases hn:n=d
   ·subst hn;rw[CB a n v h1];exact h2
   ·rw[GZ a d n v hn,hs n (by rw[ho];simpa using λe=>hn e.symm)];exact keep n
  ·by_cases hn:n=d
   ·subst hn;exact h3
   ·rw[hs n (by rw[ho];simpa using λe=>hn e.symm)];exact Za n
theorem eS.change{E:Tab}{σ σ':St}{a:Act}{w w':bD}{c c':eJ}(h:eS E σ a w c)(b7:Ok E σ w c)(hG:nO σ c w σ' c' w')(hA:ji σ c c')(il:∀nm,σ (cR nm)≠ .jq->σ' (cR nm)≠ .jq)
  (o:eV) (v:bf) (hs:∀n,o.dst≠ah n->slot σ' n=slot σ n) (hd:∀d,o.dst=ah d->d<a.tmps.size/\iW E w' c' (slot σ' d) v/\l_ σ' (slot σ' d)):eS E σ' (a.put o.dst v) w' c':=
 h.qK b7 hG hA.w il o v hs hd
theorem pn(σ:St)(o:eV)(v:SV):(∀n,o.dst≠ah n->slot (wr σ (dw o v)) n=slot σ n)/\(∀d,o.dst=ah d->slot (wr σ (dw o v)) d=v)/\∀nm,wr σ (dw o v) (cR nm)=σ (cR nm):=by
 cases ho:o.dst with
 |none=>simp[dw,ho,wr]
 |some d=>
  refine⟨λn hn=> ?_,λd' hd=> ?_,λnm=> ?_⟩
  ·simp only[dw,ho,wr];rw[wy,bH (by rintro rfl;exact hn rfl)]
  ·cases hd;simp only[dw,ho,wr];rw[wy,bw rfl]
  ·simp only[dw,ho,wr];exact H8 _ _ _ _
end Go.FG

namespace Go.FG
def im:Ck->bf
 | .i k=> .int k 0| .b=> .bool ak| .s=> .string ⟨#[]⟩| .l _=> .slice aj 0 0| .o=> .nilIface
def ly:AV->bf
 | .i k n=> .int k n| .b x=> .bool x| .s x=> .string x|_=> .nilIface
structure d_ (P:cM) (E:Tab):Prop where
 info:∀t ti,E.ty t=ah ti->∃inf,P.info? t=ah inf/\inf.size=ti.ks.length/\inf.bytes=ti.bytes/\0<ti.ks.length/\
  (JN ti.ks=ai->∃z,inf.zero=ah z/\z.cells=(ti.ks.map im).toArray/\(ti.agg=ai->z= .agg (ti.ks.map im).toArray))
 desc:∀t ti,E.ty t=ah ti->∃d,P.underlying t=ah d/\
  (ti.agg=ai->∃fs,d= .struct fs/\∀f o n,E.fo t f=ah (o,n)->∃fd,fs[f]? =ah fd/\fd.offset=o/\(P.info? fd.type).map (·.size)=ah n/\n≠0/\o+n<=ti.ks.length)/\
  (ti.agg=ak->(∃k,ti.ks=[.i k]/\d= .int k)\/(ti.ks=[.b]/\d= .bool)\/(ti.ks=[.s]/\d= .string)\/(∃e,ti.ks=[.l e]/\d= .slice e)\/
   (ti.ks=[.o]/\(match d with| .struct _| .array _ _=>ak|_=>ai)=ai))
 fo:∀t f o n,E.fo t f=ah (o,n)->∃ti,E.ty t=ah ti/\ti.agg=ai
 pl:∀t ti,E.ty t=ah ti->ti.agg=ai->∀fs,P.underlying t=ah (.struct fs)->∃pl,fs.toList.mapM (λf=>(P.info? f.type).map λi=>(f.offset,i.size))=ah pl/\∀f o n,E.fo t f=ah (o,n)->pl[f]? =ah (o,n)
 eq:∀t ti,lX t E.eqs=ai->E.ty t=ah ti->∀(w:bD) (x y:da) (xs ys:ay AV) (r:aW),UI xs ys=ah r->xs.map Fh=ti.ks->ys.map Fh=ti.ks->
  (do eqGuard .eql t x y (.agg (xs.map ly).toArray) (.agg (ys.map ly).toArray);binOp .eql t (.agg (xs.map ly).toArray) (.agg (ys.map ly).toArray)).run P w= .ok (.bool r) w/\
  (do eqGuard .neq t x y (.agg (xs.map ly).toArray) (.agg (ys.map ly).toArray);binOp .neq t (.agg (xs.map ly).toArray) (.agg (ys.map ly).toArray)).run P w= .ok (.bool !r) w
 fl:∀t f,E.Qg t f=ai->∀fs fd,P.underlying t=ah (.struct fs)->fs[f]? =ah fd->∀w,(Go.isAgg fd.type).run P w= .ok ak w
theorem Dh{v:bf}(h:v.oneCell'=ai):v.cells= #[v]:=by cases v<;>simp_all [Value.cells,Value.oneCell']
theorem ea.one{E:Tab}{w:bD}{c:eJ}{a:AV}{v:bf}(h:ea E w c a v):v.oneCell'=true:=by
 cases a with
 |i=>cases h;rfl
 |b=>cases h;rfl
 |s=>cases h.1;rfl
 |nl=>cases h;rfl
 |sh e xs=>cases h<;>rfl
 |own n=>cases h;unfold kY;split<;>rfl
 |vw n lo hi=>
  obtain⟨_,_,h1,h2⟩:=h;by_cases hn:(c.P n).nil=ai
  ·rw[h1 hn];rfl
  ·rcases h2 (by simpa using hn)with ⟨_,h⟩|⟨_,o,_,h⟩<;>rw[h]<;>rfl
 |bp n j=>cases h;rfl
 |rp n i j=>rw[h.2];rfl
 |sp e xs i j=>obtain⟨_,_,_,_,_,_,_,h⟩:=h;rw[h];rfl
 |inn n i j=>rw[h.1.2];unfold kY;split<;>rfl
 |ip n i j i2 j2=>rw[h.1.2.2];rfl
 |iv n i j lo hi=>
  obtain⟨⟨_,_,_,h1,h2⟩,_⟩:=h;by_cases hn:(c.G n i j).nil=ai
  ·rw[h1 hn];rfl
  ·rcases h2 (by simpa using hn)with ⟨_,h⟩|⟨_,o,_,h⟩<;>rw[h]<;>rfl
 |fn f iC=>obtain⟨ps,h,_⟩:=h;rw[h];rfl
 |fp cs j=>obtain⟨b,h,_⟩:=h;rw[h];rfl
section
variable {P:cM} (w:bD)
theorem Addr.mK(b o i:aE):(ad b o).add i=ad b (o+i):=by unfold Addr.add ad;split<;>simp_all
theorem CO(b o:aE):∀(vs:ay bf) (i:aE) (w:bD) (cur:c_ bf),mY w b cur->o+i+vs.length<=cur.size->(∀v∈vs,v.oneCell'=ai)->
  (storeCells (ad b o) vs i).run P w= .ok () (w.setRow b (cur.toList.take (o+i)++vs++cur.toList.drop (o+i+vs.length)).toArray):=by
 intro vs;induction vs with
 |nil=>intro i w cur hb _ _;obtain⟨t,fr,hg,hf⟩:=hb;simp only[storeCells,dN,jo,wY,List.take_append_drop,sZ];rw[setRow_self w b cur t fr hg];rfl
 |cons v rest ih=>
  intro i w cur hb hl h1;have hi:o+i<cur.size:=by simp at hl;omega
  have anD:=hb.free hi;obtain⟨t,fr,hg,hf⟩:=hb;have hcell:w.cell? (ad b (o+i))=ah cur[o+i]:=by simp[World.cell?,hg,hi]
  have Jz:(store ((ad b o).add i) v).run P w= .ok () (w.setRow b (cur.setIfInBounds (o+i) v)):=by rw[Addr.mK,run_store P w _ v _ (h1 v (by simp)),hcell];simp[anD,setCell_eq_setRow w b (o+i) cur t fr v hg]
  have N0:mY (w.setRow b (cur.setIfInBounds (o+i) v)) b (cur.setIfInBounds (o+i) v):=⟨t,fr,setRow_heap w b cur _ t fr hg,by simpa using hf⟩
  have ih':=ih (i+1) (w.setRow b (cur.setIfInBounds (o+i) v)) (cur.setIfInBounds (o+i) v) N0 (by simp at hl⊢;omega) (λx hx=>h1 x (by simp[hx]));simp only[storeCells,ca,Jz,bA,ih',setRow_setRow];congr 3;have e:=list_seg_step cur.toList (o+i) v rest (by simp at hl⊢;omega);simpa [Array.toList_setIfInBounds,lB]using e
def dQ(cur:c_ bf)(o:aE)(vs:ay bf):c_ bf:=(cur.toList.take o++vs++cur.toList.drop (o+vs.length)).toArray
theorem eN{cur:c_ bf}{o:aE}{vs:ay bf}(h:o+vs.length<=cur.size):(dQ cur o vs).size=cur.size:=by simp[dQ];omega
theorem f_{cur:c_ bf}{o:aE}{vs:ay bf}(h:o+vs.length<=cur.size)(k:aE):
  (dQ cur o vs)[k]? =if o<=k/\k<o+vs.length then vs[k-o]? else cur[k]? :=by
 simp only[dQ,gV];by_cases h1:k<o
 ·rw[bH (by omega),ch,dr (by simp;omega),dR,bw h1];simp
 ·by_cases h2:k<o+vs.length
  ·rw[bw ⟨by omega,h2⟩,ch,cX (by simp;omega),dr (by simp;omega)];congr 1;simp;omega
  ·rw[bH (by omega),ch,cX (by simp;omega),cX (by simp;omega),dJ];simp only[cF];congr 1;simp;omega
theorem mW{b o:aE}{vs:ay bf}{cur:c_ bf}(hb:mY w b cur)(hl:o+vs.length<=cur.size)(h1:∀v∈vs,v.oneCell'=ai):
  (storeCells (ad b o) vs).run P w= .ok () (w.setRow b (dQ cur o vs)):=by have:=CO (P:=P) b o vs 0 w cur hb (by simpa using hl) h1;simpa [dQ]using this
theorem mY.setRow{w:bD}{b:aE}{cur new:c_ bf}(h:mY w b cur)(hs:new.size=cur.size):mY (w.setRow b new) b new:=by obtain⟨t,fr,hg,hf⟩:=h;exact⟨t,fr,setRow_heap w b cur new t fr hg,by rw[hs];exact hf⟩
theorem mY.alloc(w:bD)(cs:c_ bf)(t:TypeId):mY (w.alloc (.cells cs t)) w.heap.size cs:=
 ⟨t,(0,0),heap_alloc_new w _,λo _=>by simp⟩
theorem wq{b o:aE}{cs:ay bf}(h:∀j v,cs[j]? =ah v->w.cell? (ad b (o+j))=ah v):(loadCells (ad b o) cs.length).run P w= .ok cs.toArray w:=
 run_loadCells_list w (ad b o) cs (λj v hj=>by rw[Addr.mK];exact h j v hj)
theorem BP{E:Tab}(hE:d_ P E){t:aE}{ti:TI}(ht:E.ty t=ah ti){b o:aE}{cs:ay bf}(hl:cs.length=ti.ks.length)(h:∀j v,cs[j]? =ah v->w.cell? (ad b (o+j))=ah v):
  (wW t (.pointer (ah (ad b o)))).run P w= .ok (if ti.agg=ai then .agg cs.toArray else cs.headD .nilIface) w:=by
 obtain⟨inf,hi,fH,_,kC,_⟩:=hE.info t ti ht;obtain⟨d,hd,ha,hn⟩:=hE.desc t ti ht;cases td:ti.agg with
 |true=>obtain⟨fs,rfl,_⟩:=ha td;have hr:=wq (P:=P) w (b:=b) (o:=o) h;simp only[wW,tI,loadVar,isAgg,ca,run_underlying hd,cG,bA,if_true,sizeOf,typeInfo,program,mH,hi,fH,<-hl,hr]
 |false=>
  have v5:∃k,ti.ks=[k]:=by rcases hn td with ⟨k,h,_⟩|⟨h,_⟩|⟨h,_⟩|⟨e,h,_⟩|⟨h,_⟩<;>exact⟨_,h⟩
  obtain⟨k,hk⟩:=v5;rw[hk]at hl;obtain⟨v,rfl⟩:=gG.1 hl;have hc:=h 0 v rfl;simp only[wY]at hc;have au8:(match d with| .struct _| .array _ _=>ai|_=>ak)=false:=by
   rcases hn td with ⟨k,_,rfl⟩|⟨_,rfl⟩|⟨_,rfl⟩|⟨e,_,rfl⟩|⟨_,h⟩
   ·rfl
   ·rfl
   ·rfl
   ·rfl
   ·cases d<;>simp_all
  have anj:(isAgg t).run P w= .ok ak w:=by simp only[isAgg,ca,run_underlying hd,bA];cases d<;>simp_all
  simp only[wW,tI,loadVar,ca,cG,bA,anj,dg,if_false,run_load,hc,List.headD]
theorem HR{E:Tab}(hE:d_ P E){t:aE}{ti:TI}(ht:E.ty t=ah ti){b o:aE}{v:bf}{cur:c_ bf}(hl:v.cells.size=ti.ks.length)(hb:mY w b cur)(hf:o+v.cells.size<=cur.size)(h1:∀u∈v.cells.toList,u.oneCell'=ai):
  (Uc t (.pointer (ah (ad b o))) v).run P w= .ok () (w.setRow b (dQ cur o v.cells.toList)):=by obtain⟨inf,hi,fH,_⟩:=hE.info t ti ht;have hr:=mW (P:=P) w hb (o:=o) (vs:=v.cells.toList) (by simpa using hf) h1;simp only[Uc,tI,storeVar,ca,cG,bA,sizeOf,typeInfo,program,mH,hi,fH,hl,ne_eq,not_true_eq_false,if_false,hr]
theorem NF{E:Tab}(hE:d_ P E){t:aE}{ti:TI}(ht:E.ty t=ah ti)(ho:JN ti.ks=ai):
  (Instr.alloc t ai (.tuple #[])).run P w= .ok (.pointer (ah (ad w.heap.size 0))) (w.alloc (.cells (ti.ks.map im).toArray t)):=by obtain⟨inf,hi,fH,_,_,hz⟩:=hE.info t ti ht;obtain⟨z,Io,CJ,_⟩:=hz ho;simp only[Instr.alloc,ca,zeroValue,typeInfo,program,mH,hi,bA,cG,Io,newVar,newRow,newObj,CJ];rfl
theorem R6(t:aE)(v:bf):(Instr.box t v).run P w= .ok (.pointer (ah (ad w.heap.size 0))) (w.alloc (.cells v.cells t)):=by simp only[Instr.box,ca,newVar,newRow,newObj,mH,bA,cG];rfl
theorem HM{E:Tab}(hE:d_ P E){t f off n:aE}(hf:E.fo t f=ah (off,n))(b o:aE):
  (Ua t (.pointer (ah (ad b o))) f).run P w= .ok (.pointer (ah (ad b (o+off)))) w:=by
 obtain⟨ti,ht,td⟩:=hE.fo t f off n hf;obtain⟨d,hd,ha,_⟩:=hE.desc t ti ht;obtain⟨fs,rfl,Jw⟩:=ha td;obtain⟨fd,h1,h2,h3,h4,_⟩:=Jw f off n hf;cases hq:P.info? fd.type with
 |none=>simp[hq]at h3
 |some inf=>
  have hs:inf.size=n:=by simpa [hq]using h3
  have il:¬inf.size=0:=by omega
  simp only[Ua,ca,run_underlying hd,bA,h1,tI,cG,fieldPlace,sizeOf,typeInfo,program,mH,hq,bH il,mE,Addr.mK,h2]
theorem oA{E:Tab}(hE:d_ P E){t e:aE}{ti:TI}(ht:E.ty t=ah ti)(td:ti.agg=ak)(hk:ti.ks=[.l e]):P.underlying t=ah (.slice e):=by obtain⟨d,hd,_,hn⟩:=hE.desc t ti ht;rcases hn td with ⟨k,h,_⟩|⟨h,_⟩|⟨h,_⟩|⟨e',h,rfl⟩|⟨h,_⟩<;>rw[hk]at h<;>simp_all
theorem HN{E:Tab}(hE:d_ P E){t e:aE}{te:TI}(hu:P.underlying t=ah (.slice e))(he:E.ty e=ah te)(b o n c:aE)(k:mG)(i:az)(h0:0<=i)(h1:i<n):
  (Ub t (.slice (ah (ad b o)) n c) (.int k i)).run P w= .ok (.pointer (ah (ad b (o+i.toNat*te.ks.length)))) w:=by obtain⟨inf,hi,fH,_⟩:=hE.info e te he;simp only[Ub,asIntOf,ca,cG,bA,run_underlying hu,h0,h1,and_self,if_true,sizeOf,typeInfo,program,mH,hi,fH,Addr.mK]
end
end Go.FG

namespace Go.FG
section
variable {P:cM} {E:fm} {σ:St} {a:Act} {w:bD} {c:eJ}
theorem lL(dp:eS E σ a w c){x:da}{v:SV}(h:(Fu x).val σ=ah v):iW E w c v (a.eval x)/\l_ σ v:=by
 cases x with
 |tmp t=>
  simp only[Fu,Rd.Af]at h;cases hc:σ (pJ t)with
  |v x=>rw[hc]at h;obtain rfl:=aD h;have h1:=dp.ok t;have h2:=dp.kn t;simp only[slot,hc]at h1 h2;exact⟨h1,h2⟩
  |o x=>rw[hc]at h;simp at h;subst h;exact⟨trivial,λn hn=>by simp[cw]at hn⟩
  |jq=>rw[hc]at h;simp at h;subst h;exact⟨trivial,λn hn=>by simp[cw]at hn⟩
 |const v'=>
  obtain rfl:=aD h;refine⟨?_, ?_⟩
  ·show iW E w c (cst v') v';unfold cst;split;case h_3 x=>
    cases hd:e9 x.size 4611686018427387904 with
    |true=>exact⟨rfl,cD hd⟩
    |false=>exact trivial
   all_goals first|trivial|rfl
  ·unfold cst;intro n hn;split at hn;case h_3 x=>
    cases hd:e9 x.size 4611686018427387904 with
    |true=>simp[hd,cw,bE]at hn
    |false=>simp[hd,cw]at hn
   all_goals simp[cw,bE]at hn
 |global g=>simp[Fu]at h
 |func f=>obtain rfl:=aD h;exact⟨⟨#[],rfl,rfl,λq cs hq=>by simp at hq⟩,λn hn=>by simp[cw,bE]at hn⟩
theorem iM(dp:eS E σ a w c){x:da}{v:AV}(h:(qU x).val σ=ah v):ea E w c v (a.eval x)/\iV σ v:=by
 obtain⟨s,h1,h2⟩:=Rd.bind_some h;obtain⟨h3,h4⟩:=lL dp h1;split at h2
 ·obtain rfl:=aD h2;exact⟨h3,λn hn=>h4 n (by simpa [cw]using hn)⟩
 ·simp at h2
theorem ph(dp:eS E σ a w c){x:da}{k:mG}{n:az}(h:(Bu x).val σ=ah (k,n)):a.eval x= .int k n:=by
 obtain⟨s,h1,h2⟩:=Rd.bind_some h;obtain⟨h3,_⟩:=iM dp h1;split at h2
 ·simp at h2;obtain⟨rfl,rfl⟩:=h2;exact h3
 ·simp at h2
theorem c9{nm:aE}{x:Obj}(h:(i_ nm).val σ=ah x):σ (cR nm)= .o x:=by
 simp only[i_,Rd.Af]at h;split at h
 ·rename_i y hy;simp at h;subst h;exact hy
 ·simp at h
theorem dH{t:aE}{ti:TI}(h:(q_ E t).val σ=ah ti):E.ty t=ah ti:=by
 unfold q_ at h;split at h
 ·simp at h;subst h;assumption
 ·simp at h
theorem j4{nm:aE}{u:Unit}(h:(fresh nm).val σ=ah u):σ (cR nm)= .jq/\nm<900000000:=by
 simp only[fresh,Rd.Af]at h;split at h
 ·rename_i hy;obtain⟨h1,_⟩:=cy h;exact⟨hy,by have:=cD h1;omega⟩
 ·simp at h
def gC(P:cM)(E:fm)(σ:St)(a:Act)(w:bD)(c:eJ)(o:eV)(ws:ay (aE×eA)):Prop:=
 ∀(K:Act->bD->Prop) (Q:Exit->Act->bD->Prop),
  (∀v w' c',Ok E (wr σ ws) w' c'->eS E (wr σ ws) (a.put o.dst v) w' c'->nO σ c w (wr σ ws) c' w'->pq σ c c'->K (a.put o.dst v) w')->o.wp P a w K Q
theorem wE{o:eV}{v:bf}{w':bD}{K:Act->bD->Prop}{Q:Exit->Act->bD->Prop}(hr:(execOp a.eval o).run P w= .ok (.value v) w')(hK:K (a.put o.dst v) w'):o.wp P a w K Q:=by unfold Mw;rw[hr];exact hK
theorem vi{o:eV}{w':bD}{K:Act->bD->Prop}{Q:Exit->Act->bD->Prop}(hr:(execOp a.eval o).run P w= .ok .skip w')(hK:K (a.put o.dst undef) w'):o.wp P a w K Q:=by unfold Mw;rw[hr];exact hK
theorem ji.refl(σ:St)(c:eJ):ji σ c c:=λ_ _=>⟨rfl,rfl⟩
theorem fL(b7:Ok E σ w c)(dp:eS E σ a w c){o:eV}(hd:∀d,o.dst=ah d->d<a.tmps.size){s:SV}{v:bf}
  (hs:iW E w c s v) (hk:l_ σ s) (hr:(execOp a.eval o).run P w= .ok (.value v) w):gC P E σ a w c o (dw o s):=by
 intro K Q hK;obtain⟨s1,s2,s3⟩:=pn σ o s;obtain⟨h1,h2⟩:=b7.slot s3;refine wE hr (hK v w c h1 ?_ h2 (ji.refl _ _).w);refine dp.change b7 h2 (ji.refl _ _) (λnm hn=>by rw[s3];exact hn) o v s1 (λd ho=>⟨hd d ho, ?_, ?_⟩)
 ·rw[s2 d ho];exact hs
 ·rw[s2 d ho];intro n hn;rw[s3];exact hk n hn
theorem Ba(b7:Ok E σ w c)(dp:eS E σ a w c){o:eV}(hd:∀d,o.dst=ah d->d<a.tmps.size){nm:aE}{ob:Obj}{s:SV}{v:bf}{w':bD}{p:Pl}{g:aE->aE->Pl}
  (hn:σ (cR nm)= .jq) (jt:nm<900000000)
  (mh:∀c':eJ,c'.P nm=p->c'.G nm=g->(∀b,c.K b->c'.K b)->ji σ c c'->o7 E w' c' nm ob)
  (pd:∀c':eJ,c'.P nm=p->c'.G nm=g->∀b,e8 c' nm ob b->w.heap.size<=b)
  (He:∀xs,ob= .box xs->∀a∈xs,iV σ a)
  (wN:∀c':eJ,c'.P nm=p->c'.G nm=g->iW E w' c' s v) (zE:∀n∈cw s,n=nm\/σ (cR n)≠ .jq)
  (hW:∀b,b<w.heap.size->w'.heap[b]? =w.heap[b]?) (fH:w.heap.size<=w'.heap.size) (M8:w'.os=w.os) (U8:w'.tape=w.tape) (U1:w'.output=w.output)
  (hr:(execOp a.eval o).run P w= .ok (.value v) w'):gC P E σ a w c o ((cR nm, .o ob)::dw o s):=by
 intro K Q hK;let c':eJ:=⟨λn=>if n=nm then p else c.P n,λn=>if n=nm then g else c.G n,c.K⟩
 have hP:c'.P nm=p:=bw rfl;have hG:c'.G nm=g:=bw rfl;have hA:ji σ c c':=λm hm=>by
  have:m≠nm:=by rintro rfl;rcases hm with h|h;exact h hn;omega
  exact⟨bH this,bH this⟩
 let σ1:=oe σ (cR nm) (.o ob);obtain⟨s1,s2,s3⟩:=pn σ1 o s;have key:∀m,wr σ1 (dw o s) (cR m)=if m=nm then .o ob else σ (cR m):=λm=>by rw[s3];exact nY _ _ _ _
 have il:∀m,σ (cR m)≠ .jq->wr σ1 (dw o s) (cR m)≠ .jq:=λm hm=>by rw[key];split<;>simp_all
 have hh:=b7.change (σ':=wr σ1 (dw o s)) (w':=w') (c':=c') (λm=>m=nm) (λm hm=>by rw[key,bH hm]) il hA
  (λb hb _=>hW b hb) fH (λ_ h=>h) (λ_ h=> .inl h) (λb hb=>ig (b7.lt b hb) fH)
  (λm x hm ho=>by subst hm;rw[key,bw rfl]at ho;cases ho;exact mh c' hP hG (λ_ h=>h) hA)
  (λm x b hm ho hf=>by subst hm;rw[key,bw rfl]at ho;cases ho;have:=pd c' hP hG b hf;exact⟨.inr this,λhk=>by have:=b7.lt b hk;omega⟩)
  (λm x m' x' b hm uZ _ _ _ _=>by rw[hm,uZ])
  (λm xs hm ho y hy n j5=>by subst hm;rw[key,bw rfl]at ho;cases ho;exact il n (He xs rfl y hy n j5)) M8 U8 U1
 refine wE hr (hK v w' c' hh.1 ?_ hh.2 hA.w);refine dp.change b7 hh.2 hA il o v (λn j5=>by rw[s1 n j5];exact iz _ _ _ _) (λd ho=>⟨hd d ho, ?_, ?_⟩)
 ·show iW E w' c' (slot (wr σ1 (dw o s)) d) v;rw[s2 d ho];exact wN c' hP hG
 ·show l_ (wr σ1 (dw o s)) (slot (wr σ1 (dw o s)) d);rw[s2 d ho];intro n j5;rw[key];split
  ·simp
  ·rename_i h;exact(zE n j5).resolve_left h
theorem sD(b7:Ok E σ w c)(dp:eS E σ a w c){o:eV}(hd:∀d,o.dst=ah d->d<a.tmps.size){nm:aE}{ob ob':Obj}{s:SV}{v:bf}{w':bD}
  (hn:σ (cR nm)= .o ob) (mh:o7 E w' c nm ob') (pd:∀b,e8 c nm ob' b->e8 c nm ob b)
  (He:∀xs,ob'= .box xs->∀a∈xs,iV σ a)
  (wN:iW E w' c s v) (zE:l_ σ s)
  (hW:∀b,b<w.heap.size->¬e8 c nm ob b->w'.heap[b]? =w.heap[b]?) (fH:w.heap.size<=w'.heap.size) (M8:w'.os=w.os) (U8:w'.tape=w.tape) (U1:w'.output=w.output)
  (hr:(execOp a.eval o).run P w= .ok (.value v) w'\/((execOp a.eval o).run P w= .ok .skip w'/\v=undef)):gC P E σ a w c o ([(cR nm, .o ob')]++dw o s):=by
 intro K Q hK;let σ1:=oe σ (cR nm) (.o ob');obtain⟨s1,s2,s3⟩:=pn σ1 o s;have key:∀m,wr σ1 (dw o s) (cR m)=if m=nm then .o ob' else σ (cR m):=λm=>by rw[s3];exact nY _ _ _ _
 have il:∀m,σ (cR m)≠ .jq->wr σ1 (dw o s) (cR m)≠ .jq:=λm hm=>by rw[key];split<;>simp_all
 have g9:∀b,e8 c nm ob b->jA (λm=>m=nm) σ c b:=λb hb=>⟨nm,ob,rfl,hn,hb⟩
 have hh:=b7.change (σ':=wr σ1 (dw o s)) (w':=w') (c':=c) (λm=>m=nm) (λm hm=>by rw[key,bH hm]) il (ji.refl _ _)
  (λb hb Qw=>hW b hb (λhf=>Qw (g9 b hf))) fH (λ_ h=>h) (λ_ h=> .inl h) (λb hb=>ig (b7.lt b hb) fH)
  (λm x hm ho=>by subst hm;rw[key,bw rfl]at ho;cases ho;exact mh)
  (λm x b hm ho hf=>by subst hm;rw[key,bw rfl]at ho;cases ho;exact⟨.inl (g9 b (pd b hf)),b7.kk _ _ b hn (pd b hf)⟩)
  (λm x m' x' b hm uZ _ _ _ _=>by rw[hm,uZ])
  (λm xs hm ho y hy n j5=>by subst hm;rw[key,bw rfl]at ho;cases ho;exact il n (He xs rfl y hy n j5)) M8 U8 U1
 have agb:eS E (wr σ1 (dw o s)) (a.put o.dst v) w' c:=by
  refine dp.change b7 hh.2 (ji.refl _ _) il o v (λn j5=>by rw[s1 n j5];exact iz _ _ _ _) (λd ho=>⟨hd d ho, ?_, ?_⟩)
  ·rw[s2 d ho];exact wN
  ·rw[s2 d ho];intro n j5;rw[key];split
   ·simp
   ·exact zE n j5
 rcases hr with hr|⟨hr,rfl⟩
 ·exact wE hr (hK v w' c hh.1 agb hh.2 (ji.refl _ _).w)
 ·exact vi hr (hK undef w' c hh.1 agb hh.2 (ji.refl _ _).w)
end
end Go.FG

namespace Go.FG
theorem abz:∀{x y:Ck},ckB x y=ai->x=y:=by intro x y h;cases x<;>cases y<;>simp[ckB]at h<;>first|rfl|(subst h;rfl)|(have:=aR h;subst this;rfl)
theorem qL:∀{a b:ay Ck},pF a b=ai->a=b
 |[],[],_=>rfl
 |[],_::_,h=>by simp[pF]at h
 |_::_,[],h=>by simp[pF]at h
 |x::l,y::r,h=>by
  simp only[pF,aJ]at h;rw[abz h.1,qL h.2]
structure am2 (E:fm) (w:bD) (K:aE->Prop) (b o n c e:aE) (xs:aU) (ti:TI) (U:aE->aE->bf):Prop where
 nn:n=xs.length
 ty:E.ty e=ah ti
 cap:xs.length<=c
 mx:c<=maxLen
 kb:K b
 sh:∀y∈xs,y.map CV.kd=ti.ks
 cell:∀i j y x,xs[i]? =ah y->y[j]? =ah x->w.cell? (ad b (o+i*ti.ks.length+j))=ah (U i j)
 inn:∀i j y x,xs[i]? =ah y->y[j]? =ah x->cT E w K (U i j) x
theorem cT.Hs{E:fm}{w:bD}{K:aE->Prop}{b o n c e:aE}{xs:aU}(h:cT E w K (.slice (ah (ad b o)) n c) (.l e xs))(hn:0<xs.length):∃ti U,am2 E w K b o n c e xs ti U:=by
 generalize hv:Value.slice (ah (ad b o)) n c=v at h;generalize hx:CV.l e xs=x at h;cases h with
 |i=>cases hx
 |b=>cases hx
 |s=>cases hx
 |nl=>cases hx;simp at hn
 |l e xs b o c ti U ht hc hm hK hs hcell g9=>cases hx;cases hv;exact⟨ti,U,rfl,ht,hc,hm,hK,hs,hcell,g9⟩
theorem I_{E:fm}{w:bD}{c:eJ}{u:bf}{x:CV}(h:cT E w c.K u x):ea E w c (dec x.kd x) u:=by
 cases x with
 |i k n=>cases h;rfl
 |b=>cases h;rfl
 |s=>cases h with|s _ ho=>exact⟨rfl,ho⟩
 |l e xs=>exact h
theorem LG{E:fm}{w:bD}{c:eJ}{u:bf}{x:CV}(h:cT E w c.K u x):ea E w c (WG x) u:=by
 cases x with
 |i k n=>cases h;rfl
 |b=>cases h;rfl
 |s=>cases h with|s _ ho=>exact⟨rfl,ho⟩
 |l e xs=>exact h
theorem oy{E:fm}{w:bD}{c:eJ}{u:bf}{x:CV}(hl:tf x=ak)(h:Sc u x):ea E w c (dec x.kd x) u:=by
 cases x with
 |i=>exact h.1
 |b=>exact h.1
 |s=>exact h
 |l=>simp[tf]at hl
theorem Ni(k:Ck)(x:CV):bE (dec k x)=[]:=by cases k<;>rfl
theorem Bn(x:CV):bE (WG x)=[]:=by cases x<;>rfl
theorem ld(xs:aU)(i:aE):∀(ks:ay Ck) (j q:aE),(tT xs i j ks)[q]? =(ks[q]?).map λk=>dec k (ar xs i (j+q)):=by
 intro ks;induction ks with
 |nil=>intro j q;simp[tT]
 |cons k ks ih=>
  intro j q;cases q with
  |zero=>simp[tT]
  |succ q=>simp only[tT,dD,ih];congr 2;funext k;congr 2;omega
theorem GU(nm:aE)(xs:aU)(i:aE):∀(ks:ay Ck) (j q:aE),(zC nm xs i j ks)[q]? =(ks[q]?).map λk=>match k with| .l _=>AV.inn nm i (j+q)|k=>dec k (ar xs i (j+q)):=by
 intro ks;induction ks with
 |nil=>intro j q;simp[zC]
 |cons k ks ih=>
  intro j q;cases q with
  |zero=>cases k<;>simp[zC]
  |succ q=>
   have e:j+1+q=j+(q+1):=by omega
   cases k<;>simp only[zC,dD,ih,e]
theorem eK{xs:aU}{i j:aE}{y:ay CV}{x:CV}(hi:xs[i]? =ah y)(hj:y[j]? =ah x):ar xs i j=x:=by simp[ar,jH,hi,hj]
theorem j9(xs:aU)(i:aE):∀(ks:ay Ck) (j:aE),(tT xs i j ks).length=ks.length:=by
 intro ks;induction ks with
 |nil=>intro j;rfl
 |cons k ks ih=>intro j;simp[tT,ih]
theorem za(nm:aE)(xs:aU)(i:aE):∀(ks:ay Ck) (j:aE),(zC nm xs i j ks).length=ks.length:=by
 intro ks;induction ks with
 |nil=>intro j;rfl
 |cons k ks ih=>intro j;cases k<;>simp[zC,ih]
theorem qe{ks ks2:ay Ck}{j:aE}{y:ay CV}(hy:y.map CV.kd=ks)(h:(ks.drop j).take ks2.length=ks2){q:aE}(hq:q<ks2.length):∃x,y[j+q]? =ah x/\ks2[q]? =ah x.kd:=by
 have h1:ks2[q]? =ks[j+q]? :=by rw[<-h,dR,bw hq,dJ]
 rw[<-hy,bF]at h1;cases hx:y[j+q]? with
 |none=>rw[hx]at h1;simp at h1;omega
 |some x=>exact⟨x,rfl,by rw[h1,hx];rfl⟩
section
variable {P:cM} {E:fm} {σ:St} {a:Act} {w:bD} {c:eJ}
theorem qd{p:Pl}{G:aE->aE->Pl}{xs:aU}{ks:ay Ck}{i j e2:aE}(fG:iP w p xs (λi j u x=>if ai=ai then XC E w G i j u x else cT E w c.K u x))(lj:∀y∈xs,y.map CV.kd=ks)(hi:i<p.n)(hk:ks[j]? =ah (.l e2)):
  ∃ys y,xs[i]? =ah y/\y[j]? =ah (.l e2 ys)/\∃u,XC E w G i j u (.l e2 ys):=by
 have kZ:i<xs.length:=by rw[<-fG.n];exact hi
 have hy:xs[i]? =ah xs[i]:=by simp[kZ]
 have h1:=lj xs[i] (bC kZ);rw[<-h1,bF]at hk;cases hx:xs[i][j]? with
 |none=>rw[hx]at hk;cases hk
 |some x=>
  rw[hx]at hk;cases x with
  |l e ys=>
   cases hk;have iR:p.nil=false:=by
    cases hn:p.nil with
    |false=>rfl
    |true=>have:=(fG.nil hn).1;subst this;simp at kZ
   obtain⟨vals,_,_,_,_,nM⟩:=fG.mem iR;obtain⟨u,_,hr⟩:=nM i _ j _ hy hx;rw[bw rfl]at hr;exact⟨ys,_,hy,hx,u,hr⟩
  |i=>cases hk
  |b=>cases hk
  |s=>cases hk
theorem gJ{ks:ay Ck}(h:plain ks=ai){y:ay CV}(hy:y.map CV.kd=ks){j:aE}{x:CV}(hx:y[j]? =ah x):tf x=false:=by
 have h1:x.kd∈ks:=by rw[<-hy];exact cO.2 ⟨x,aP hx,rfl⟩
 have h2:=bu.1 h _ h1;cases x<;>simp_all [CV.kd,tf]
structure PD (E:fm) (σ:St) (w:bD) (c:eJ) (ti:TI) (v:bf) (xs:ay AV):Prop where
 ex:∃(b o:aE) (cs:ay bf),v= .pointer (ah (ad b o))/\cs.length=ti.ks.length/\(∀(j:aE) (u:bf),cs[j]? =ah u->w.cell? (ad b (o+j))=ah u)/\
  xs.length=ti.ks.length/\(∀(j:aE) (x:AV),xs[j]? =ah x->∃u:bf,cs[j]? =ah u/\ea E w c x u)
 kn:∀x∈xs,iV σ x
theorem lQ{ti:TI}{b o:aE}{xs:ay AV}(hl:xs.length=ti.ks.length)(h:∀(j:aE) (x:AV),xs[j]? =ah x->∃u:bf,w.cell? (ad b (o+j))=ah u/\ea E w c x u)(hk:∀x∈xs,iV σ x):
  PD E σ w c ti (.pointer (ah (ad b o))) xs:=by
 refine⟨⟨b,o,(cJ xs.length).map (λj=>(w.cell? (ad b (o+j))).getD undef),rfl,by simp[hl], ?_,hl, ?_⟩,hk⟩
 ·intro j u hu;simp only[bF]at hu;by_cases hj:j<xs.length
  ·obtain⟨u',rA,_⟩:=h j xs[j] (by simp[hj]);simp only[hj,uH,h_,rA,wZ,jg]at hu;rw[rA,hu]
  ·simp[km (l:=cJ xs.length) (by simpa using hj)]at hu
 ·intro j x hx;obtain⟨u,hu,hv⟩:=h j x hx;refine⟨u, ?_,hv⟩
  have hj:j<xs.length:=(aT.1 hx).1;simp[hj,hu]
theorem Q7(b7:Ok E σ w c){ti:TI}{p:AV}{v:bf}{xs:ay AV}(hp:ea E w c p v)(h:(rB E ti p).val σ=ah xs):PD E σ w c ti v xs:=by
 have WD:∀(n:aE) (k:Ck) (x:CV),n∈bE (dec k x)->σ (cR n)≠ .jq:=λn k x hn=>by rw[Ni]at hn;simp at hn
 cases p with
 |bp nm j=>
  obtain⟨o,ho,h2⟩:=Rd.bind_some h;have mh:=b7.obj nm o (c9 ho);obtain rfl:v=_:=hp;cases o with
  |box ys=>
   obtain⟨hle,h3⟩:=cy h2;have hle:=cD hle;obtain rfl:=aD h3;obtain⟨vals,hb,hs,hc⟩:=mh;refine lQ (by simp;omega) (λq x hx=> ?_) (λx hx=>b7.kn nm ys (c9 ho) x (kT (kq hx)));rw[dR]at hx;split at hx
   ·rw[dJ]at hx;obtain⟨u,hu,hv⟩:=hc (j+q) x hx;exact⟨u,(hb.cell (j+q)).trans hu,hv⟩
   ·cases hx
  |nB cs=>
   obtain⟨hle,h3⟩:=cy h2;have hle:=cD hle;obtain rfl:=aD h3;refine lQ (by simp;omega) (λq x hx=> ?_) (λx hx=> ?_)
   ·rw[bF,dR]at hx;split at hx
    ·rw[dJ]at hx;cases hy:cs[j+q]? with
     |none=>rw[hy]at hx;cases hx
     |some y=>rw[hy]at hx;cases hx;obtain⟨u,hu,hv⟩:=mh.2 (j+q) y hy;exact⟨u,hu,LG hv⟩
    ·cases hx
   ·obtain⟨y,_,rfl⟩:=cO.1 hx;intro n hn;rw[Bn]at hn;simp at hn
  |row=>simp at h2
  |fE=>simp at h2
  |dead=>simp at h2
 |fp cs j=>
  obtain⟨hle,h3⟩:=cy h;have hle:=cD hle;obtain rfl:=aD h3;obtain⟨b,rfl,hb⟩:=hp;refine lQ (by simp;omega) (λq x hx=> ?_) (λx hx=> ?_)
  ·rw[bF,dR]at hx;split at hx
   ·rw[dJ]at hx;cases hy:cs[j+q]? with
    |none=>rw[hy]at hx;cases hx
    |some y=>rw[hy]at hx;cases hx;obtain⟨u,hu,hv⟩:=hb.2 (j+q) y hy;exact⟨u,hu,LG hv⟩
   ·cases hx
  ·obtain⟨y,_,rfl⟩:=cO.1 hx;intro n hn;rw[Bn]at hn;simp at hn
 |sp e ys i j=>
  obtain⟨te,ht,h2⟩:=Rd.bind_some h;have ht:=dH ht;obtain⟨hk,h3⟩:=cy h2;have hk:=qL hk;obtain rfl:=aD h3;obtain⟨b,o,cp,ti2,hh,hi,Fa,rfl⟩:=hp;obtain rfl:te=ti2:=aD (ht.symm.trans Fa);refine lQ (j9 _ _ _ _) (λq x hx=> ?_) (λx hx=> ?_)
  ·rw[ld]at hx;obtain⟨ti3,U,hL⟩:=hh.Hs (by omega);obtain rfl:te=ti3:=aD (ht.symm.trans hL.ty);have hq:q<ti.ks.length:=by
    cases hq:ti.ks[q]? with
    |none=>rw[hq]at hx;cases hx
    |some k=>exact(aT.1 hq).1
   have hy:ys[i]? =ah ys[i]:=by simp[hi]
   obtain⟨z,hz,uY⟩:=qe (hL.sh ys[i] (bC hi)) hk hq;rw[uY]at hx;cases hx;rw[eK hy hz];exact⟨U i (j+q),by have:=hL.cell i (j+q) _ z hy hz;rwa[show o+i*te.ks.length+j+q=o+i*te.ks.length+(j+q)by omega],I_ (hL.inn i (j+q) _ z hy hz)⟩
  ·obtain⟨q,hq⟩:=bX hx;rw[ld]at hq;cases uY:ti.ks[q]? with
   |none=>rw[uY]at hq;cases hq
   |some k=>rw[uY]at hq;cases hq;intro n hn;exact WD n _ _ hn
 |rp nm i j=>
  obtain⟨o,ho,h2⟩:=Rd.bind_some h;have ho:=c9 ho;have mh:=b7.obj nm o ho;obtain⟨hi,rfl⟩:=hp;cases o with
  |row e ex ys=>
   obtain⟨te,ht,h2⟩:=Rd.bind_some h2;have ht:=dH ht;obtain⟨hk,h3⟩:=cy h2;have hk:=qL hk;have h3:(ex=ai/\plain ti.ks=ai/\xs=tT ys i j ti.ks)\/((ex=ak\/vl nm=ak)/\xs=bif ex then zC nm ys i j ti.ks else tT ys i j ti.ks):=by
    cases hF:(ex&&vl nm)with
    |true=>rw[hF,au]at h3;obtain⟨rP,h3⟩:=cy h3;rw[aJ]at hF;exact .inl ⟨hF.1,rP,(aD h3).symm⟩
    |false=>
     rw[hF,aA]at h3;refine .inr ⟨?_,(aD h3).symm⟩;cases ex with
     |false=>exact .inl rfl
     |true=>exact .inr (by simpa using hF)
   obtain⟨⟨ti2,Fa,fH,lj⟩,fG,_⟩:=mh;obtain rfl:te=ti2:=aD (ht.symm.trans Fa);have iR:(c.P nm).nil=false:=by
    cases hn:(c.P nm).nil with
    |false=>rfl
    |true=>have:=(fG.nil hn).1;subst this;rw[fG.n]at hi;simp at hi
   obtain⟨vals,hb,Qv,_,mz,nM⟩:=fG.mem iR;have kZ:i<ys.length:=by rw[<-fG.n];exact hi
   have hy:ys[i]? =ah ys[i]:=by simp[kZ]
   rcases h3 with ⟨rfl,rP,rfl⟩|h3
   ·refine lQ (j9 _ _ _ _) (λq x hx=> ?_) (λx hx=> ?_)
    ·have hq:q<ti.ks.length:=by have:=(aT.1 hx).1;simpa [j9]using this
     obtain⟨z,hz,uY⟩:=qe (lj ys[i] (bC kZ)) hk hq;obtain⟨u,hu,hr⟩:=nM i _ (j+q) z hy hz;rw[bw rfl]at hr;rw[ld,uY]at hx;cases hx;refine⟨u, ?_, ?_⟩
     ·rw[hb.cell];rw[<-hu];congr 1;omega
     ·have hzk:=bu.1 rP z.kd (aP uY);show ea E w c (dec z.kd (ar ys i (j+q))) u;rw[eK hy hz];cases z with
      |l e2 zs=>cases hzk
      |i k n=>exact oy rfl hr
      |b t=>exact oy rfl hr
      |s t=>exact oy rfl hr
    ·obtain⟨q,hq⟩:=bX hx;intro n hn;rw[ld]at hq;cases uY:ti.ks[q]? with
     |none=>rw[uY]at hq;cases hq
     |some k=>rw[uY]at hq;cases hq;exact WD n _ _ hn
   obtain⟨hFn,rfl⟩:=h3;refine lQ (by cases ex<;>simp[j9,za]) (λq x hx=> ?_) (λx hx=> ?_)
   ·have hq:q<ti.ks.length:=by have:=(aT.1 hx).1;cases ex<;>simpa [j9,za]using this
    obtain⟨z,hz,uY⟩:=qe (lj ys[i] (bC kZ)) hk hq;obtain⟨u,hu,hr⟩:=nM i _ (j+q) z hy hz;refine⟨u, ?_, ?_⟩
    ·rw[hb.cell];rw[<-hu];congr 1;omega
    ·cases ex with
     |false=>rw[bH (by simp)]at hr;have hx:(tT ys i j ti.ks)[q]? =ah x:=hx;rw[ld,uY]at hx;cases hx;rw[eK hy hz];exact I_ hr
     |true=>
      rw[bw rfl]at hr;have hx:(zC nm ys i j ti.ks)[q]? =ah x:=hx;rw[GU,uY]at hx;cases z with
      |l e2 zs=>cases hx;exact⟨⟨hi,hr.1⟩,hFn.resolve_left (by simp)⟩
      |i k n=>cases hx;rw[eK hy hz];exact oy rfl hr
      |b t=>cases hx;rw[eK hy hz];exact oy rfl hr
      |s t=>cases hx;rw[eK hy hz];exact oy rfl hr
   ·obtain⟨q,hq⟩:=bX hx;intro n hn;cases ex with
    |false=>
     have hq:(tT ys i j ti.ks)[q]? =ah x:=hq;rw[ld]at hq;cases uY:ti.ks[q]? with
     |none=>rw[uY]at hq;cases hq
     |some k=>rw[uY]at hq;cases hq;exact WD n _ _ hn
    |true=>
     have hq:(zC nm ys i j ti.ks)[q]? =ah x:=hq;rw[GU]at hq;cases uY:ti.ks[q]? with
     |none=>rw[uY]at hq;cases hq
     |some k=>
      rw[uY]at hq;cases k with
      |l e2=>cases hq;simp[bE]at hn;subst hn;rw[ho];simp
      |i=>cases hq;exact WD n _ _ hn
      |b=>cases hq;exact WD n _ _ hn
      |s=>cases hq;exact WD n _ _ hn
      |o=>cases hq;exact WD n _ _ hn
  |fE e ys=>
   obtain⟨te,ht,h2⟩:=Rd.bind_some h2;have ht:=dH ht;obtain⟨hk,h3⟩:=cy h2;have hk:=qL hk;obtain rfl:=aD h3;obtain⟨hh,hn,ti2,Fa,fH⟩:=mh;obtain rfl:te=ti2:=aD (ht.symm.trans Fa);have kZ:i<ys.length:=by rw[<-hn];exact hi
   have hy:ys[i]? =ah ys[i]:=by simp[kZ]
   have iR:(c.P nm).nil=false:=by
    cases hq:(c.P nm).nil with
    |false=>rfl
    |true=>unfold kY at hh;rw[bw hq]at hh;cases hh;simp at kZ
   unfold kY at hh;rw[bH (by simp[iR]),hn]at hh;refine lQ (j9 _ _ _ _) (λq x hx=> ?_) (λx hx=> ?_)
   ·rw[ld]at hx;obtain⟨ti3,U,hL⟩:=hh.Hs (by omega);obtain rfl:te=ti3:=aD (ht.symm.trans hL.ty);have hq:q<ti.ks.length:=by
     cases hq:ti.ks[q]? with
     |none=>rw[hq]at hx;cases hx
     |some k=>exact(aT.1 hq).1
    obtain⟨z,hz,uY⟩:=qe (hL.sh ys[i] (bC kZ)) hk hq;rw[uY]at hx;cases hx;rw[eK hy hz];exact⟨U i (j+q),by have:=hL.cell i (j+q) _ z hy hz;rw[<-this];congr 2;rw[fH];omega,I_ (hL.inn i (j+q) _ z hy hz)⟩
   ·obtain⟨q,hq⟩:=bX hx;rw[ld]at hq;cases uY:ti.ks[q]? with
    |none=>rw[uY]at hq;cases hq
    |some k=>rw[uY]at hq;cases hq;intro n hn;exact WD n _ _ hn
  |box=>simp at h2
  |nB=>simp at h2
  |dead=>simp at h2
 |ip nm i j i2 j2=>
  obtain⟨o,ho,h2⟩:=Rd.bind_some h;have ho:=c9 ho;have mh:=b7.obj nm o ho;obtain⟨⟨jL,hi,rfl⟩,hFp⟩:=hp;cases o with
  |row e ex ys=>
   cases ex with
   |false=>simp at h2
   |true=>
    obtain⟨te,ht,h2⟩:=Rd.bind_some h2;have ht:=dH ht;split at h2
    ·rename_i e2 wM;obtain⟨t2,Fa,h2⟩:=Rd.bind_some h2;have Fa:=dH Fa;obtain⟨hk,h3⟩:=cy h2;have hk:=qL hk;obtain rfl:=aD h3;obtain⟨⟨tj,U6,fH,lj⟩,fG,_⟩:=mh;obtain rfl:te=tj:=aD (ht.symm.trans U6);obtain⟨zs,y,hy,Vf,uu,_,tk,Fb,rP,JA,Bh,my⟩:=qd (c:=c) fG lj jL wM;obtain rfl:t2=tk:=aD (Fa.symm.trans Fb);rw[eK hy Vf];refine lQ (j9 _ _ _ _) (λq x hx=> ?_) (λx hx=> ?_)
     ·rw[ld]at hx;have hq:q<ti.ks.length:=by
       cases hq:ti.ks[q]? with
       |none=>rw[hq]at hx;cases hx
       |some k=>exact(aT.1 hq).1
      have CE:i2<zs.length:=by rw[<-my.n];exact hi
      have Bf:(c.G nm i j).nil=false:=by
       cases hn:(c.G nm i j).nil with
       |false=>rfl
       |true=>have:=(my.nil hn).1;subst this;simp at CE
      obtain⟨vals,hb,_,_,_,nM⟩:=my.mem Bf;have hzi:zs[i2]? =ah zs[i2]:=by simp[CE]
      obtain⟨z,hz,uY⟩:=qe (Bh zs[i2] (bC CE)) hk hq;obtain⟨u,hu,hr⟩:=nM i2 _ (j2+q) z hzi hz;rw[uY]at hx;cases hx;refine⟨u, ?_, ?_⟩
      ·rw[hb.cell,<-hu];congr 1;omega
      ·show ea E w c (dec z.kd (ar zs i2 (j2+q))) u;rw[eK hzi hz];exact oy (gJ rP (Bh _ (bC CE)) hz) hr
     ·obtain⟨q,hq⟩:=bX hx;rw[ld]at hq;cases uY:ti.ks[q]? with
      |none=>rw[uY]at hq;cases hq
      |some k=>rw[uY]at hq;cases hq;intro n hn;exact WD n _ _ hn
    ·simp at h2
  |fE=>simp at h2
  |box=>simp at h2
  |nB=>simp at h2
  |dead=>simp at h2
 |i=>simp[rB]at h
 |b=>simp[rB]at h
 |s=>simp[rB]at h
 |sh=>simp[rB]at h
 |nl=>simp[rB]at h
 |own=>simp[rB]at h
 |vw=>simp[rB]at h
 |inn=>simp[rB]at h
 |iv=>simp[rB]at h
 |fn=>simp[rB]at h
end
end Go.FG

namespace Go.FG
section
variable {P:cM} {E:fm} {σ:St} {a:Act} {w:bD} {c:eJ} {o:eV} {nm:aE} {e:rW}
theorem iJ{s:Sem bf}{v:bf}{w':bD}(hr:s.run P w= .ok v w'):(do pure (Next.value (<-s)):Sem Next).run P w= .ok (.value v) w':=by simp only[ca,hr,bA,cG]
theorem fO(b7:Ok E σ w c)(dp:eS E σ a w c)(hd:∀d,o.dst=ah d->d<a.tmps.size){s:SV}{v:bf}(h:(val o s).val σ=ah e)(hs:iW E w c s v)(hk:l_ σ s)(hr:(execOp a.eval o).run P w= .ok (.value v) w):gC P E σ a w c o e.ws:=by obtain rfl:=aD h;exact fL b7 dp hd hs hk hr
theorem DO(b7:Ok E σ w c)(dp:eS E σ a w c)(hd:∀d,o.dst=ah d->d<a.tmps.size){b:aW}{x:AV}{v:bf}(h:(Kg o b x).val σ=ah e)(hc:e.cond=ai)(hs:b=ai->ea E w c x v)(hk:iV σ x)(hr:b=ai->(execOp a.eval o).run P w= .ok (.value v) w):gC P E σ a w c o e.ws:=by obtain rfl:=aD h;have hc:b=true:=hc;exact fL b7 dp hd (hs hc) (λn hn=>hk n (by simpa [cw]using hn)) (hr hc)
theorem th{σ:St}{x:AV}(h:bE x=[]):iV σ x:=λn hn=>by rw[h]at hn;simp at hn
theorem LL(b7:Ok E σ w c)(dp:eS E σ a w c)(hd:∀d,o.dst=ah d->d<a.tmps.size){x:da}(ho:o.op= .move x\/o.op= .assign x)(h:(lE E nm o).val σ=ah e):gC P E σ a w c o e.ws:=by
 have h':((Fu x).bind λv=>val o v).val σ=ah e:=by rcases ho with ho|ho<;>simpa [lE,ho]using h
 obtain⟨v,h1,h2⟩:=Rd.bind_some h';obtain⟨hv,hk⟩:=lL dp h1;refine fO b7 dp hd h2 hv hk ?_;rcases ho with ho|ho<;>(unfold execOp;rw[ho];rfl)
theorem HE(b7:Ok E σ w c)(dp:eS E σ a w c)(hd:∀d,o.dst=ah d->d<a.tmps.size){x:da}(ho:o.op= .nilCheck x)(h:(lE E nm o).val σ=ah e):gC P E σ a w c o e.ws:=by
 simp only[lE,ho]at h;obtain⟨p,h1,h⟩:=Rd.bind_some h;obtain⟨ex,kx⟩:=iM dp h1;cases p with
 |bp n j=>have tc:a.eval x= .pointer (ah (ad (c.P n).blk j)):=ex;refine fO b7 dp hd h (v:=a.eval x) ex (λn hn=>kx n (by simpa [cw]using hn)) ?_;unfold execOp;rw[ho];simp only[tc];rfl
 |rp n i j=>have tc:a.eval x= .pointer (ah (ad (c.P n).blk ((c.P n).off+i*(c.P n).sz+j))):=ex.2;refine fO b7 dp hd h (v:=a.eval x) ex (λn hn=>kx n (by simpa [cw]using hn)) ?_;unfold execOp;rw[ho];simp only[tc];rfl
 |_=>cases h
theorem WM(b7:Ok E σ w c)(dp:eS E σ a w c)(hd:∀d,o.dst=ah d->d<a.tmps.size){x y z:da}(ho:o.op= .pick x y z)(h:(lE E nm o).val σ=ah e)(hc:e.cond=ai):gC P E σ a w c o e.ws:=by
 simp only[lE,ho]at h;obtain⟨cx,h1,h⟩:=Rd.bind_some h;obtain⟨vy,h2,h⟩:=Rd.bind_some h;obtain⟨vz,h3,h⟩:=Rd.bind_some h;obtain⟨ex,kx⟩:=iM dp h1;obtain⟨ey,ky⟩:=lL dp h2;obtain⟨ez,kz⟩:=lL dp h3;have run:∀b,a.eval x= .bool b->(execOp a.eval o).run P w= .ok (.value (if b then a.eval y else a.eval z)) w:=by intro b hb;unfold execOp;rw[ho];simp only[hb,asBool,ca,cG,bA]
 cases cx with
 |b b=>
  replace ex:a.eval x= .bool b:=ex;have both:∀p q,vy= .v ak [.b p]->vz= .v ak [.b q]->gC P E σ a w c o e.ws:=by
   rintro p q rfl rfl;refine fO b7 dp hd h (v:=if b then a.eval y else a.eval z) ?_ (λn hn=>by simp[cw,bE]at hn) (run b ex);cases b
   ·exact ez
   ·exact ey
  have lft:vy= .jE []->gC P E σ a w c o e.ws:=by
   rintro rfl;replace h:(Rd.ret (⟨!b,dw o vz⟩:rW)).val σ=ah e:=by cases vz<;>exact h
   obtain rfl:=aD h;have hb:b=false:=by simpa using hc
   subst hb;exact fL b7 dp hd ez kz (run ak ex)
  have rgt:vz= .jE []->vy≠ .jE []->gC P E σ a w c o e.ws:=by
   rintro rfl il;replace h:(Rd.ret (⟨b,dw o vy⟩:rW)).val σ=ah e:=by
    cases vy with
    |un=>exact h
    |jE l=>cases l with
     |nil=>exact cE rfl il
     |cons=>exact h
    |v g xs=>cases g<;>(rcases xs with _|⟨⟨⟩,_|⟨_,_⟩⟩<;>exact h)
   obtain rfl:=aD h;have hb:b=true:=hc;subst hb;exact fL b7 dp hd ey ky (run ai ex)
  cases vy with
  |un=>cases vz with
   |un=>simp at h
   |jE l=>cases l with
    |nil=>exact rgt rfl (by simp)
    |cons=>simp at h
   |v=>simp at h
  |jE l=>cases l with
   |nil=>exact lft rfl
   |cons=>cases vz with
    |un=>simp at h
    |jE l2=>cases l2 with
     |nil=>exact rgt rfl (by simp)
     |cons=>simp at h
    |v=>simp at h
  |v g xs=>cases vz with
   |un=>simp at h
   |jE l2=>cases l2 with
    |nil=>exact rgt rfl (by simp)
    |cons=>simp at h
   |v g2 ys=>cases g<;>cases g2<;>rcases xs with _|⟨⟨⟩,_|⟨_,_⟩⟩<;>rcases ys with _|⟨⟨⟩,_|⟨_,_⟩⟩<;>first|(simp at h;done)|exact both _ _ rfl rfl
 |i=>simp at h
 |s=>simp at h
 |sh=>simp at h
 |nl=>simp at h
 |own=>simp at h
 |vw=>simp at h
 |bp=>simp at h
 |rp=>simp at h
 |sp=>simp at h
 |inn=>simp at h
 |ip=>simp at h
 |iv=>simp at h
 |fn=>simp at h
 |fp=>simp at h
theorem WL(hE:d_ P E)(b7:Ok E σ w c)(dp:eS E σ a w c)(hd:∀d,o.dst=ah d->d<a.tmps.size){t:aE}{p:da}(ho:o.op= .load t p)(h:(lE E nm o).val σ=ah e):gC P E σ a w c o e.ws:=by
 simp only[lE,ho]at h;obtain⟨ti,h1,h⟩:=Rd.bind_some h;obtain⟨pv,h2,h⟩:=Rd.bind_some h;obtain⟨xs,h3,h⟩:=Rd.bind_some h;have ht:=dH h1;obtain⟨ep,_⟩:=iM dp h2;obtain⟨⟨b,of,cs,hv,hl,hcell,hlen,TJ⟩,He⟩:=Q7 b7 ep h3;have hr:=BP (P:=P) w hE ht hl hcell;refine fO b7 dp hd h (v:=if ti.agg=ai then .agg cs.toArray else cs.headD .nilIface) ?_ (λn hn=>by obtain⟨x,hx,hn⟩:=bG.1 hn;exact He x hx n hn) ?_
 ·show pD E w c ti.agg xs _;cases td:ti.agg with
  |true=>rw[bw rfl];exact⟨cs.toArray,rfl,by simp[hl,hlen],λj x hj=>by obtain⟨u,hu,hx⟩:=TJ j x hj;exact⟨u,by simpa using hu,hx⟩⟩
  |false=>
   obtain⟨d,_,_,hn⟩:=hE.desc t ti ht;have h1:ti.ks.length=1:=by rcases hn td with ⟨k,h,_⟩|⟨h,_⟩|⟨h,_⟩|⟨e',h,_⟩|⟨h,_⟩<;>simp[h]
   obtain⟨x,rfl⟩:=gG.1 (hlen.trans h1);obtain⟨v,rfl⟩:=gG.1 (hl.trans h1);obtain⟨u,hu,hx⟩:=TJ 0 x rfl;simp at hu;subst hu;simpa [pD]using hx
 ·unfold execOp;rw[ho];exact iJ (by rw[hv];exact hr)
theorem Fq(hE:d_ P E)(b7:Ok E σ w c)(dp:eS E σ a w c)(hd:∀d,o.dst=ah d->d<a.tmps.size){t f:aE}{p:da}(ho:o.op= .fieldAddr t p f)(h:(lE E nm o).val σ=ah e):gC P E σ a w c o e.ws:=by
 simp only[lE,ho]at h;obtain⟨pv,h1,h⟩:=Rd.bind_some h;obtain⟨q,h2,h⟩:=Rd.bind_some h;obtain⟨ep,kp⟩:=iM dp h1;unfold Qb at h2;cases hf:E.fo t f with
 |none=>rw[hf]at h2;simp at h2
 |some r=>
  obtain⟨off,n⟩:=r;rw[hf]at h2;have run:∀b o',a.eval p= .pointer (ah (ad b o'))->(execOp a.eval o).run P w= .ok (.value (.pointer (ah (ad b (o'+off))))) w:=by intro b o' hp;unfold execOp;rw[ho];exact iJ (by rw[hp];exact HM (P:=P) w hE hf b o')
  cases pv with
  |bp gA j=>obtain rfl:=aD h2;exact fO b7 dp hd h (s:= .v ak [.bp gA (j+off)]) (v:= .pointer (ah (ad (c.P gA).blk (j+off)))) rfl (λn hn=>kp n (by simpa [cw,bE]using hn)) (run _ _ ep)
  |rp gA i j=>obtain rfl:=aD h2;refine fO b7 dp hd h (s:= .v ak [.rp gA i (j+off)]) ?_ (λn hn=>kp n (by simpa [cw,bE]using hn)) (run _ _ ep.2);exact⟨ep.1,by rw[show(c.P gA).off+i*(c.P gA).sz+j+off=(c.P gA).off+i*(c.P gA).sz+(j+off)by omega]⟩
  |sp e2 xs i j=>obtain rfl:=aD h2;obtain⟨b,o',cp,ti,e1,UC,e3,e4⟩:=ep;refine fO b7 dp hd h (s:= .v ak [.sp e2 xs i (j+off)]) ?_ (λn hn=>by simp[cw,bE]at hn) (run _ _ e4);exact⟨b,o',cp,ti,e1,UC,e3,by rw[show o'+i*ti.ks.length+j+off=o'+i*ti.ks.length+(j+off)by omega]⟩
  |ip gA i j i2 j2=>obtain rfl:=aD h2;refine fO b7 dp hd h (s:= .v ak [.ip gA i j i2 (j2+off)]) ?_ (λn hn=>kp n (by simpa [cw,bE]using hn)) (run _ _ ep.1.2.2);exact⟨⟨ep.1.1,ep.1.2.1,by rw[show(c.G gA i j).off+i2*(c.G gA i j).sz+j2+off=(c.G gA i j).off+i2*(c.G gA i j).sz+(j2+off)by omega]⟩,ep.2⟩
  |fp cs j=>obtain rfl:=aD h2;obtain⟨b,e1,UC⟩:=ep;exact fO b7 dp hd h (s:= .v ak [.fp cs (j+off)]) ⟨b,rfl,UC⟩ (λn hn=>by simp[cw,bE]at hn) (run _ _ e1)
  |i=>simp at h2
  |b=>simp at h2
  |s=>simp at h2
  |sh=>simp at h2
  |nl=>simp at h2
  |own=>simp at h2
  |vw=>simp at h2
  |inn=>simp at h2
  |iv=>simp at h2
  |fn=>simp at h2
theorem JS(b7:Ok E σ w c)(dp:eS E σ a w c)(hd:∀d,o.dst=ah d->d<a.tmps.size){x:da}{i:aE}(ho:o.op= .extract x i)(h:(lE E nm o).val σ=ah e):gC P E σ a w c o e.ws:=by
 simp only[lE,ho]at h;obtain⟨v,h1,h⟩:=Rd.bind_some h;obtain⟨ev,kv⟩:=lL dp h1;split at h
 ·rename_i l;split at h
  ·rename_i agg xs hl;obtain⟨vs,e1,e2,e3⟩:=ev;obtain⟨u,hu,hv⟩:=e3 i agg xs hl;refine fO b7 dp hd h (v:=u) hv (λn hn=>kv n (bG.2 ⟨(agg,xs),aP hl,hn⟩)) ?_;unfold execOp;rw[ho];refine iJ ?_;rw[e1];simp only[Instr.extract,hu];rfl
  ·simp at h
 ·simp at h
theorem WN(b7:Ok E σ w c)(dp:eS E σ a w c)(hd:∀d,o.dst=ah d->d<a.tmps.size){x:da}{op:UnOp}{t:aE}(ho:o.op= .unOp op t x)(h:(lE E nm o).val σ=ah e):gC P E σ a w c o e.ws:=by
 simp only[lE,ho]at h;obtain⟨v,h1,h⟩:=Rd.bind_some h;obtain⟨ev,kv⟩:=iM dp h1;cases op with
 |not=>
  cases v with
  |b b=>refine fO b7 dp hd h (v:= .bool !b) rfl (λn hn=>by simp[cw,bE]at hn) ?_;unfold execOp;rw[ho];refine iJ ?_;rw[show a.eval x= .bool b from ev];rfl
  |_=>simp at h
 |neg=>
  cases v with
  |i k n=>refine fO b7 dp hd h (v:= .int k (k.wrap (0-n))) rfl (λn hn=>by simp[cw,bE]at hn) ?_;unfold execOp;rw[ho];refine iJ ?_;rw[show a.eval x= .int k n from ev];rfl
  |_=>simp at h
 |_=>cases v<;>simp at h
theorem qO{E:fm}{σ:St}{t:aE}{k:Ck}(h:(pf E t).val σ=ah k):∃ti,E.ty t=ah ti/\ti.agg=ak/\ti.ks=[k]:=by
 obtain⟨ti,h1,h2⟩:=Rd.bind_some h;split at h2
 ·rename_i k' h3 h4;simp at h2;subst h2;exact⟨ti,dH h1,h3,h4⟩
 ·simp at h2
theorem j7{E:fm}{σ:St}(hE:d_ P E){t e:aE}(h:(pf E t).val σ=ah (.l e)):P.underlying t=ah (.slice e):=by obtain⟨ti,h1,h2,h3⟩:=qO h;exact oA hE h1 h2 h3
theorem kE{E:fm}{σ:St}(hE:d_ P E){t:aE}(h:(pf E t).val σ=ah .s):P.underlying t=ah .string:=by obtain⟨ti,h1,h2,h3⟩:=qO h;obtain⟨d,hd,_,hn⟩:=hE.desc t ti h1;rcases hn h2 with ⟨k,h,_⟩|⟨h,_⟩|⟨h,rfl⟩|⟨e',h,_⟩|⟨h,_⟩<;>rw[h3]at h<;>simp_all
theorem RC(hE:d_ P E)(b7:Ok E σ w c)(dp:eS E σ a w c)(hd:∀d,o.dst=ah d->d<a.tmps.size){x y:da}{t:aE}(ho:o.op= .index t x y)(h:(lE E nm o).val σ=ah e)(hc:e.cond=ai):gC P E σ a w c o e.ws:=by
 simp only[lE,ho]at h;obtain⟨kk,h0,h⟩:=Rd.bind_some h;obtain⟨v,h1,h⟩:=Rd.bind_some h;obtain⟨⟨k,n⟩,h2,h⟩:=Rd.bind_some h;obtain⟨ev,kv⟩:=iM dp h1;have ei:=ph dp h2;cases kk with
 |s=>cases v with
  |s s=>
   have hu:=kE hE h0;refine DO b7 dp hd h hc (v:= .int .u8 ((s.data.getD n.toNat 0).toNat:az)) (λ_=>rfl) (th rfl) (λhb=> ?_);simp only[aJ,bc]at hb;obtain⟨h0,h3⟩:=hb;unfold execOp;rw[ho];refine iJ ?_;replace ev:a.eval x= .string s:=ev.1;have jt:n.toNat<s.size:=by omega
   have hg:s[n.toNat]? =ah s[n.toNat]:=by simp[jt]
   have hs:s[n.toNat]=s.data.getD n.toNat 0:=by rw[Array.getD,dif_pos (show n.toNat<s.data.size from jt)];rfl
   simp only[ev,ei,Instr.index,asIntOf,ca,cG,bA,run_underlying hu,h0,if_true,hg,hs]
  |_=>simp at h
 |_=>simp at h
end
end Go.FG

namespace Go.FG
section
variable {P:cM} {E:fm} {σ:St} {a:Act} {w:bD} {c:eJ} {o:eV} {nm:aE} {e:rW}
theorem pW{α:Type}{b:aW}{x:α}{σ:St}{r:α}(h:(bif b then Rd.ret x else Rd.fail).val σ=ah r):b=ai/\r=x:=by obtain⟨h1,h2⟩:=cy h;exact⟨h1,(aD h2).symm⟩
theorem eG{p:Pl}(h:p.nil=ak):kY p= .slice (ah (ad p.blk p.off)) p.n p.cap:=by unfold kY;rw[bH (by simp[h])]
theorem mg{p:Pl}(h:p.nil=ai):kY p= .slice aj 0 0:=by unfold kY;rw[bw h]
theorem kG{nm e:aE}{ex:aW}{xs:aU}(b7:Ok E σ w c)(h:σ (cR nm)= .o (.row e ex xs)):
  (c.P nm).n=xs.length/\((c.P nm).nil=ai->xs=[])/\∃ti,E.ty e=ah ti/\(c.P nm).sz=ti.ks.length/\((c.P nm).nil=ak->(c.P nm).n<=(c.P nm).cap/\(c.P nm).cap<=maxLen):=by have mh:=b7.obj nm _ h;obtain⟨ti,h1,h2,_⟩:=mh.sh;exact⟨mh.at_.n,λhn=>(mh.at_.nil hn).1,ti,h1,h2,λhn=>by obtain⟨_,_,h3,h4,_⟩:=mh.at_.mem hn;exact⟨h3,h4⟩⟩
theorem mj{nm e:aE}{xs:aU}(b7:Ok E σ w c)(h:σ (cR nm)= .o (.fE e xs)):
  (c.P nm).n=xs.length/\((c.P nm).nil=ai->xs=[])/\∃ti,E.ty e=ah ti/\(c.P nm).sz=ti.ks.length:=by
 obtain⟨h1,h2,h3⟩:=b7.obj nm _ h;refine⟨h2,λhn=> ?_,h3⟩
 rw[mg hn]at h1;cases h1;rfl
theorem Fs(hE:d_ P E)(b7:Ok E σ w c)(dp:eS E σ a w c)(hd:∀d,o.dst=ah d->d<a.tmps.size){x y:da}{t:aE}(ho:o.op= .indexAddr t x y)(h:(lE E nm o).val σ=ah e)(hc:e.cond=ai):gC P E σ a w c o e.ws:=by
 simp only[lE,ho]at h;obtain⟨kk,h0,h⟩:=Rd.bind_some h;cases kk with
 |l el=>
  obtain⟨v,h1,h⟩:=Rd.bind_some h;obtain⟨⟨k,n⟩,h2,h⟩:=Rd.bind_some h;obtain⟨⟨b,q⟩,h3,h⟩:=Rd.bind_some h;obtain⟨ev,kv⟩:=iM dp h1;have ei:=ph dp h2;have hu:=j7 hE h0;have run:∀te b o' m cp,E.ty el=ah te->a.eval x= .slice (ah (ad b o')) m cp->0<=n->n<(m:az)->(execOp a.eval o).run P w= .ok (.value (.pointer (ah (ad b (o'+n.toNat*te.ks.length))))) w:=by intro te b o' m cp JB hx h0 h1;unfold execOp;rw[ho];refine iJ ?_;rw[hx,ei];exact HN (P:=P) w hE hu JB b o' m cp k n h0 h1
  cases v with
  |sh e' xs=>
   obtain⟨Bb,h3⟩:=pW h3;obtain⟨rfl,rfl⟩:=bS h3;have:=aR Bb;subst this;obtain rfl:=aD h;have hc:(decide (0<=n)&&decide (n<(xs.length:az)))=true:=hc;simp only[aJ,bc]at hc;obtain⟨c0,c1⟩:=hc;have ev:cT E w c.K (a.eval x) (.l el xs):=ev;generalize hv:a.eval x=v at ev;have il:0<xs.length:=by omega
   cases ev with
   |nl=>simp at il
   |l _ _ bb oo cc ti U ht M0 hmx hK hs hcell g9=>exact fL b7 dp hd (s:= .v ak [.sp el xs n.toNat 0]) (v:= .pointer (ah (ad bb (oo+n.toNat*ti.ks.length)))) ⟨bb,oo,cc,ti, .l el xs bb oo cc ti U ht M0 hmx hK hs hcell g9,by omega,ht,rfl⟩ (λn hn=>by simp[cw,bE]at hn) (run ti bb oo _ cc ht hv c0 c1)
  |own gA=>
   obtain⟨ob,hg,h3⟩:=Rd.bind_some h3;have hg:=c9 hg;have main:∀(xs:aU),(c.P gA).n=xs.length->((c.P gA).nil=ai->xs=[])->(∃ti,E.ty el=ah ti/\(c.P gA).sz=ti.ks.length)->(b,q)=(decide (0<=n)&&decide (n<(xs.length:az)),AV.rp gA n.toNat 0)->gC P E σ a w c o e.ws:=by
    intro xs hn iR U_ hbq;obtain⟨rfl,rfl⟩:=bS hbq;obtain rfl:=aD h;have hc:(decide (0<=n)&&decide (n<(xs.length:az)))=true:=hc;simp only[aJ,bc]at hc;obtain⟨c0,c1⟩:=hc;obtain⟨ti,ht,fH⟩:=U_;have M6:(c.P gA).nil=false:=by
     cases hq:(c.P gA).nil with
     |false=>rfl
     |true=>rw[iR hq]at c1;simp at c1;omega
    have hx:a.eval x= .slice (ah (ad (c.P gA).blk (c.P gA).off)) (c.P gA).n (c.P gA).cap:=by rw[<-eG M6];exact ev
    refine fL b7 dp hd (s:= .v ak [.rp gA n.toNat 0]) (v:= .pointer (ah (ad (c.P gA).blk ((c.P gA).off+n.toNat*ti.ks.length)))) ⟨by omega,by rw[fH];rfl⟩ (λm hm=>by simp[cw,bE]at hm;subst hm;rw[hg];simp) (run ti _ _ _ _ ht hx c0 (by rw[hn];exact c1))
   cases ob with
   |row e' ex xs=>obtain⟨Bb,h4⟩:=pW h3;have:=aR Bb;subst this;obtain⟨i1,i2,ti,i3,i4,_⟩:=kG b7 hg;exact main xs i1 i2 ⟨ti,i3,i4⟩ h4
   |fE e' xs=>obtain⟨Bb,h4⟩:=pW h3;have:=aR Bb;subst this;obtain⟨i1,i2,i3⟩:=mj b7 hg;exact main xs i1 i2 i3 h4
   |_=>simp at h3
  |vw gA lo hi=>
   obtain⟨ob,hg,h3⟩:=Rd.bind_some h3;have hg:=c9 hg;have main:∀(xs:aU),(c.P gA).n=xs.length->(∃ti,E.ty el=ah ti/\(c.P gA).sz=ti.ks.length)->(b,q)=(decide (0<=n)&&decide (n<((hi-lo:aE):az)),AV.rp gA (lo+n.toNat) 0)->gC P E σ a w c o e.ws:=by
    intro xs hn U_ hbq;obtain⟨rfl,rfl⟩:=bS hbq;obtain rfl:=aD h;have hc:(decide (0<=n)&&decide (n<((hi-lo:aE):az)))=true:=hc;simp only[aJ,bc]at hc;obtain⟨c0,c1⟩:=hc;obtain⟨ti,ht,fH⟩:=U_;obtain⟨v1,v2,v3,v4⟩:=ev;have M6:(c.P gA).nil=false:=by
     cases hq:(c.P gA).nil with
     |false=>rfl
     |true=>
      obtain⟨f1,_⟩:(c.P gA).n=0/\True:=by
       have mh:=b7.obj gA _ hg;rw[hn];cases ob with
       |row e' ex ys=>obtain⟨j1,j2,_⟩:=kG b7 hg;rw[<-hn,j1,j2 hq];simp
       |fE e' ys=>obtain⟨j1,j2,_⟩:=mj b7 hg;rw[<-hn,j1,j2 hq];simp
       |_=>simp at h3
      omega
    rcases v4 M6 with ⟨u1,hx⟩|⟨u1,oo,u2,hx⟩
    ·refine fL b7 dp hd (s:= .v ak [.rp gA (lo+n.toNat) 0]) (v:= .pointer (ah (ad (c.P gA).blk ((c.P gA).off+lo*(c.P gA).sz+n.toNat*ti.ks.length)))) ⟨by omega, ?_⟩ (λm hm=>by simp[cw,bE]at hm;subst hm;rw[hg];simp) (run ti _ _ _ _ ht hx c0 c1);rw[<-fH,show(c.P gA).off+(lo+n.toNat)*(c.P gA).sz+0=(c.P gA).off+lo*(c.P gA).sz+n.toNat*(c.P gA).sz by rw[c7];omega]
    ·exfalso;have M0:(c.P gA).n<=(c.P gA).cap:=by
      cases ob with
      |row e' ex ys=>obtain⟨_,_,_,_,_,j⟩:=kG b7 hg;exact(j M6).1
      |fE e' ys=>
       obtain⟨j1,j2,_⟩:=b7.obj gA _ hg;rw[eG M6]at j1;by_cases hz:0<ys.length
       ·obtain⟨t3,U,L⟩:=j1.Hs hz;rw[j2];exact L.cap
       ·omega
      |_=>simp at h3
     omega
   cases ob with
   |row e' ex xs=>obtain⟨Bb,h4⟩:=pW h3;have:=aR Bb;subst this;obtain⟨i1,i2,ti,i3,i4,_⟩:=kG b7 hg;exact main xs i1 ⟨ti,i3,i4⟩ h4
   |fE e' xs=>obtain⟨Bb,h4⟩:=pW h3;have:=aR Bb;subst this;obtain⟨i1,i2,i3⟩:=mj b7 hg;exact main xs i1 i3 h4
   |_=>simp at h3
  |inn gA i j=>
   obtain⟨ob,hg,h3⟩:=Rd.bind_some h3;have hg:=c9 hg;cases ob with
   |row e' ex xs=>
    cases ex with
    |false=>simp at h3
    |true=>
     obtain⟨te,ht,h3⟩:=Rd.bind_some h3;have ht:=dH ht;split at h3
     ·rename_i e2 wM;obtain⟨Bb,h3⟩:=pW h3;obtain⟨rfl,rfl⟩:=bS h3;have:=aR Bb;subst this;obtain rfl:=aD h;obtain⟨⟨jL,hx⟩,hFv⟩:=ev;obtain⟨⟨tj,U6,fH,lj⟩,fG,_⟩:=b7.obj gA _ hg;obtain rfl:te=tj:=aD (ht.symm.trans U6);obtain⟨zs,y',hy,Vf,uu,_,tk,Fb,rP,JA,Bh,my⟩:=qd (c:=c) fG lj jL wM;have hc:(decide (0<=n)&&decide (n<((iD (ar xs i j)).length:az)))=true:=hc;rw[eK hy Vf]at hc;simp only[aJ,bc]at hc;obtain⟨c0,c1⟩:=hc;have c1:n<(zs.length:az):=c1;have M6:(c.G gA i j).nil=false:=by
       cases hq:(c.G gA i j).nil with
       |false=>rfl
       |true=>have:=(my.nil hq).1;subst this;simp at c1;omega
      rw[eG M6]at hx;refine fL b7 dp hd (s:= .v ak [.ip gA i j n.toNat 0]) (v:= .pointer (ah (ad (c.G gA i j).blk ((c.G gA i j).off+n.toNat*tk.ks.length)))) ⟨⟨jL,by rw[my.n];omega,by rw[JA];rfl⟩,hFv⟩ (λm hm=>by simp[cw,bE]at hm;subst hm;rw[hg];simp) (run tk _ _ _ _ Fb hx c0 (by rw[my.n];exact c1))
     ·simp at h3
   |_=>simp at h3
  |_=>simp[QJ]at h3
 |_=>simp at h
end
end Go.FG

namespace Go.FG
section
variable {P:cM} {E:fm} {σ:St} {a:Act} {w:bD} {c:eJ} {o:eV} {nm:aE} {e:rW}
theorem z8(dp:eS E σ a w c){x:aC da}{d n:az}(h:(mC x d).val σ=ah n):(x=aj/\n=d)\/∃y k,x=ah y/\a.eval y= .int k n:=by
 cases x with
 |none=>exact .inl ⟨rfl,(aD h).symm⟩
 |some y=>obtain⟨⟨k,m⟩,h1,h2⟩:=Rd.bind_some h;obtain rfl:=aD h2;exact .inr ⟨y,k,rfl,ph dp h1⟩
theorem DK{x:bf}{k:mG}{n:az}{y:aE}{code:BoundsCode}(hx:x= .int k n)(h0:0<=n)(h1:n<=y):(qk x y code).run P w= .ok n.toNat w:=by subst hx;simp only[qk,asIntOf,ca,cG,bA,h0,h1,and_self,if_true]
theorem BM(dp:eS E σ a w c){isS:aW}{len cap:aE}{lo hi:aC da}{l h:az}(hl:(mC lo 0).val σ=ah l)(hh:(mC hi len).val σ=ah h)(h0:0<=l)(h1:l<=h)(h2:h<=cap):
  (mn isS len cap (lo.map a.eval) (hi.map a.eval) aj).run P w= .ok (l.toNat,h.toNat,cap) w:=by
 have low:∀v,lo=ah v->∀code,(qk (a.eval v) h.toNat code).run P w= .ok l.toNat w:=by
  intro v hv code;rcases z8 dp hl with ⟨hx,_⟩|⟨y,k,hx,hy⟩
  ·rw[hx]at hv;cases hv
  ·rw[hx]at hv;cases hv;exact DK hy h0 (by omega)
 have high:∀v,hi=ah v->∀code,(qk (a.eval v) cap code).run P w= .ok h.toNat w:=by
  intro v hv code;rcases z8 dp hh with ⟨hx,_⟩|⟨y,k,hx,hy⟩
  ·rw[hx]at hv;cases hv
  ·rw[hx]at hv;cases hv;exact DK hy (by omega) h2
 have l0:lo=aj->l=0:=λhx=>by rcases z8 dp hl with ⟨_,hn⟩|⟨y,k,hy,_⟩;exact hn;rw[hx]at hy;cases hy
 have TG:hi=aj->h=len:=λhx=>by rcases z8 dp hh with ⟨_,hn⟩|⟨y,k,hy,_⟩;exact hn;rw[hx]at hy;cases hy
 cases lo with
 |none=>
  obtain rfl:=l0 rfl;cases hi with
  |none=>obtain rfl:=TG rfl;simp[mn]
  |some v=>simp[mn,high v rfl]
 |some u=>
  cases hi with
  |none=>obtain rfl:=TG rfl;have:=low u rfl;simp only[dU]at this;simp[mn,this]
  |some v=>simp[mn,high v rfl,low u rfl]
theorem J6{t:aE}(hu:P.underlying t=ah .string)(dp:eS E σ a w c){lo hi:aC da}{l h:az}{s:aq}(hl:(mC lo 0).val σ=ah l)(hh:(mC hi s.size).val σ=ah h)(h0:0<=l)(h1:l<=h)(h2:h<=(s.size:az)):
  (pL t (.string s) (lo.map a.eval) (hi.map a.eval) aj).run P w= .ok (.string (s.extract l.toNat h.toNat)) w:=by simp only[pL,Instr.slice,ca,run_underlying hu,bA,Option.isSome_none,dg,if_false,BM (P:=P) dp hl hh h0 h1 h2,cG]
theorem ja{t el:aE}{te:TI}(hE:d_ P E)(hu:P.underlying t=ah (.slice el))(he:E.ty el=ah te)(dp:eS E σ a w c){lo hi:aC da}{l h:az}{A:aC Addr}{n cp:aE}(hl:(mC lo 0).val σ=ah l)(hh:(mC hi n).val σ=ah h)(h0:0<=l)(h1:l<=h)(h2:h<=(cp:az)):
  (pL t (.slice A n cp) (lo.map a.eval) (hi.map a.eval) aj).run P w= .ok (.slice (if cp=l.toNat then A else A.map (·.add (l.toNat*te.ks.length))) (h.toNat-l.toNat) (cp-l.toNat)) w:=by obtain⟨inf,kZ,fH,_⟩:=hE.info el te he;simp only[pL,Instr.slice,ca,run_underlying hu,bA,BM (P:=P) dp hl hh h0 h1 h2,sizeOf,typeInfo,program,mH,kZ,fH,cG]
theorem sU{xs:aU}{lo hi i:aE}:(eu xs lo hi)[i]? =if i<hi-lo then xs[lo+i]? else none:=by unfold eu;rw[dR];split<;>simp[dJ]
theorem lP{xs:aU}{lo hi:aE}(h:hi<=xs.length):(eu xs lo hi).length=hi-lo:=by unfold eu;simp;omega
theorem Bm{xs:aU}{lo hi:aE}{y:ay CV}(h:y∈eu xs lo hi):y∈xs:=kT (kq h)
theorem aaS{K:aE->Prop}{v:bf}{el:aE}{xs:aU}{te:TI}(he:E.ty el=ah te)(h:cT E w K v (.l el xs)){lo hi:aE}(h1:lo<=hi)(h2:hi<=xs.length):
  ∃A n cp,v= .slice A n cp/\n=xs.length/\n<=cp\/∃A cp,v= .slice A 0 cp/\xs=[]:=by
 cases h with
 |nl=>exact⟨aj,0,0, .inr ⟨_,_,rfl,rfl⟩⟩
 |l _ _ b oo cp ti U ht hc=>exact⟨_,_,_, .inl ⟨rfl,rfl,hc⟩⟩
theorem Dx{K:aE->Prop}{A:aC Addr}{n cp el:aE}{xs:aU}{te:TI}(he:E.ty el=ah te)(h:cT E w K (.slice A n cp) (.l el xs)){lo hi:aE}(h1:lo<=hi)(h2:hi<=xs.length):
  n=xs.length/\cT E w K (.slice (if cp=lo then A else A.map (·.add (lo*te.ks.length))) (hi-lo) (cp-lo)) (.l el (eu xs lo hi)):=by
 generalize hv:Value.slice A n cp=v at h;generalize hx:CV.l el xs=x at h;cases h with
 |i=>cases hx
 |b=>cases hx
 |s=>cases hx
 |nl=>
  cases hx;cases hv;have:hi=0:=by simpa using h2
  subst this;have:lo=0:=by omega
  subst this;exact⟨rfl, .nl _ _ _⟩
 |l _ _ b oo cp ti U ht hc hm hK hs hcell g9=>
  cases hx;cases hv;refine⟨rfl, ?_⟩
  obtain rfl:te=ti:=aD (he.symm.trans ht);by_cases hz:hi-lo=0
  ·rw[hz];have:eu xs lo hi=[]:=by unfold eu;rw[hz];simp
   rw[this];exact .nl _ _ _
  ·rw[bH (by omega)];simp only[h_,Addr.mK];have hl:=lP (xs:=xs) (lo:=lo) h2;rw[<-hl];refine .l el (eu xs lo hi) b (oo+lo*te.ks.length) (cp-lo) te (λi j=>U (lo+i) j) ht (by rw[hl];omega) (by omega) hK (λy hy=>hs y (Bm hy)) (λi j y x kZ hj=> ?_) (λi j y x kZ hj=> ?_)
   ·rw[sU]at kZ;split at kZ
    ·have:=hcell (lo+i) j y x kZ hj;rw[<-this];congr 2;rw[c7];omega
    ·cases kZ
   ·rw[sU]at kZ;split at kZ
    ·exact g9 (lo+i) j y x kZ hj
    ·cases kZ
theorem RD(hE:d_ P E)(b7:Ok E σ w c)(dp:eS E σ a w c)(hd:∀d,o.dst=ah d->d<a.tmps.size){x:da}{t:aE}{lo hi mx:aC da}(ho:o.op= .slice t x lo hi mx)(h:(lE E nm o).val σ=ah e)(hc:e.cond=ai):gC P E σ a w c o e.ws:=by
 simp only[lE,ho]at h;cases mx with
 |some m=>simp at h
 |none=>
 obtain⟨kk,hk,h⟩:=Rd.bind_some h;obtain⟨v,h1,h⟩:=Rd.bind_some h;obtain⟨⟨b,q⟩,h3,h⟩:=Rd.bind_some h;obtain⟨ev,kv⟩:=iM dp h1;have exec:∀{u r:bf},a.eval x=u->(pL t u (lo.map a.eval) (hi.map a.eval) aj).run P w= .ok r w->(execOp a.eval o).run P w= .ok (.value r) w:=by intro u r hu hr;unfold execOp;rw[ho];exact iJ (by rw[hu];exact hr)
 cases kk with
 |s=>cases v with
  |s s=>have hu:=kE hE hk;obtain⟨l,hl,h3⟩:=Rd.bind_some h3;obtain⟨hh,vk,h3⟩:=Rd.bind_some h3;obtain⟨rfl,rfl⟩:=bS (aD h3);obtain rfl:=aD h;have hc:iS l hh s.size=true:=hc;simp only[iS,aJ,bc]at hc;obtain⟨⟨c0,c1⟩,c2⟩:=hc;exact fL b7 dp hd (s:= .v ak [.s _]) (v:= .string _) ⟨rfl,by have h5:=ev.2;unfold Ge at h5⊢;rw[wG];omega⟩ (λn hn=>by simp[cw,bE]at hn) (exec ev.1 (J6 (P:=P) hu dp hl vk c0 c1 c2))
  |_=>simp[J_]at h3
 |l el=>
  have hu:=j7 hE hk;obtain⟨te,JB,h3⟩:=Rd.bind_some h3;have JB:=dH JB;cases v with
  |sh e' xs=>
   obtain⟨Bb,h4⟩:=cy h3;have:=aR Bb;subst this;obtain⟨l,hl,h4⟩:=Rd.bind_some h4;obtain⟨hh,vk,h4⟩:=Rd.bind_some h4;obtain⟨rfl,rfl⟩:=bS (aD h4);obtain rfl:=aD h;have hc:iS l hh xs.length=true:=hc;simp only[iS,aJ,bc]at hc;obtain⟨⟨c0,c1⟩,c2⟩:=hc;have ev:cT E w c.K (a.eval x) (.l el xs):=ev;generalize hv:a.eval x=v at ev;cases ev with
   |nl _ A cp=>
    have h0:hh=0:=by simp at c2;omega
    have l0:l=0:=by omega
    subst h0;subst l0;have hr:=ja (P:=P) (te:=te) hE hu JB dp (A:=A) (n:=0) (cp:=cp) hl vk (by omega) (by omega) (by omega);exact fL b7 dp hd (s:= .v ak [.sh el (eu [] (0:az).toNat (0:az).toNat)]) (.nl _ _ _) (λn hn=>by simp[cw,bE]at hn) (exec hv hr)
   |l _ _ bb oo cp ti U ht M0 hmx hK hs hcell g9=>have hr:=ja (P:=P) (te:=ti) hE hu ht dp (A:=ah (ad bb oo)) (cp:=cp) hl vk c0 c1 (by omega);have ant:=(Dx (lo:=l.toNat) (hi:=hh.toNat) ht (.l el xs bb oo cp ti U ht M0 hmx hK hs hcell g9) (by omega) (by omega)).2;exact fL b7 dp hd (s:= .v ak [.sh el (eu xs l.toNat hh.toNat)]) ant (λn hn=>by simp[cw,bE]at hn) (exec hv hr)
  |own gA=>
   obtain⟨ob,hg,h3⟩:=Rd.bind_some h3;have hg:=c9 hg
   have main:∀(xs:aU),(c.P gA).n=xs.length->((c.P gA).nil=ai->xs=[])->(∃ti,E.ty el=ah ti/\(c.P gA).sz=ti.ks.length)->((c.P gA).nil=ak->(c.P gA).n<=(c.P gA).cap)->
     ((mC lo 0).bind λl=>(mC hi xs.length).bind λh=>Rd.ret (iS l h xs.length,AV.vw gA l.toNat h.toNat)).val σ=ah (b,q)->gC P E σ a w c o e.ws:=by
    intro xs hn iR U_ hcp h4
    obtain⟨l,hl,h4⟩:=Rd.bind_some h4
    obtain⟨hh,vk,h4⟩:=Rd.bind_some h4
    obtain⟨rfl,rfl⟩:=bS (aD h4)
    obtain rfl:=aD h
    have hc:iS l hh xs.length=true:=hc
    simp only[iS,aJ,bc]at hc
    obtain⟨⟨c0,c1⟩,c2⟩:=hc
    obtain⟨ti,ht,fH⟩:=U_
    have ev:a.eval x=kY (c.P gA):=ev
    cases hq:(c.P gA).nil with
    |true=>
     rw[mg hq]at ev;have hx:=iR hq;subst hx;have h0:hh=0:=by simp at c2;omega
     have l0:l=0:=by omega
     subst h0;subst l0;have hr:=ja (P:=P) (te:=ti) hE hu ht dp (A:=aj) (n:=0) (cp:=0) hl vk (by omega) (by omega) (by simp);refine fL b7 dp hd (s:= .v ak [.vw gA 0 0]) (v:= .slice aj 0 0) ⟨cu _,bz _,λ_=>rfl,λhf=>by rw[hq]at hf;cases hf⟩ (λm hm=>by simp[cw,bE]at hm;subst hm;rw[hg];simp) (exec ev (by simpa using hr))
    |false=>
     rw[eG hq]at ev;have hcp:=hcp hq;have hr:=ja (P:=P) (te:=ti) hE hu ht dp (A:=ah (ad (c.P gA).blk (c.P gA).off)) (n:=(c.P gA).n) (cp:=(c.P gA).cap) hl (by rw[hn];exact vk) c0 c1 (by omega);refine fL b7 dp hd (s:= .v ak [.vw gA l.toNat hh.toNat]) ⟨by omega,by omega,λhf=>(by rw[hq]at hf;cases hf),λ_=> ?_⟩ (λm hm=>by simp[cw,bE]at hm;subst hm;rw[hg];simp) (exec ev hr);by_cases hle:(c.P gA).cap=l.toNat
     ·refine .inr ⟨hle.symm,(c.P gA).off,by omega, ?_⟩;rw[bw hle,show hh.toNat-l.toNat=0 by omega,show(c.P gA).cap-l.toNat=0 by omega]
     ·refine .inl ⟨by omega, ?_⟩;rw[bH hle];simp only[h_,Addr.mK,fH]
   cases ob with
   |row e' ex xs=>obtain⟨Bb,h4⟩:=cy h3;have:=aR Bb;subst this;obtain⟨i1,i2,ti,i3,i4,i5⟩:=kG b7 hg;exact main xs i1 i2 ⟨ti,i3,i4⟩ (λh=>(i5 h).1) h4
   |fE e' xs=>
    obtain⟨Bb,h4⟩:=cy h3;have:=aR Bb;subst this;obtain⟨i1,i2,i3⟩:=mj b7 hg;refine main xs i1 i2 i3 (λM6=> ?_) h4;obtain⟨j1,j2,_⟩:=b7.obj gA _ hg;rw[eG M6]at j1;by_cases hz:0<xs.length
    ·obtain⟨t3,U,L⟩:=j1.Hs hz;rw[j2];exact L.cap
    ·omega
   |_=>simp at h3
  |vw gA CK CE=>
   obtain⟨ob,hg,h3⟩:=Rd.bind_some h3;have hg:=c9 hg
   have main:(∃ti,E.ty el=ah ti/\(c.P gA).sz=ti.ks.length)->((c.P gA).nil=ai->(c.P gA).n=0)->((c.P gA).nil=ak->(c.P gA).n<=(c.P gA).cap)->
     ((mC lo 0).bind λl=>(mC hi ((CE-CK:aE):az)).bind λh=>Rd.ret (iS l h ((CE-CK:aE):az),AV.vw gA (CK+l.toNat) (CK+h.toNat))).val σ=ah (b,q)->gC P E σ a w c o e.ws:=by
    intro U_ iR hcp h4
    obtain⟨l,hl,h4⟩:=Rd.bind_some h4
    obtain⟨hh,vk,h4⟩:=Rd.bind_some h4
    obtain⟨rfl,rfl⟩:=bS (aD h4)
    obtain rfl:=aD h
    have hc:iS l hh ((CE-CK:aE):az)=true:=hc
    simp only[iS,aJ,bc]at hc
    obtain⟨⟨c0,c1⟩,c2⟩:=hc
    obtain⟨ti,ht,fH⟩:=U_
    obtain rfl:te=ti:=aD (JB.symm.trans ht)
    obtain⟨v1,v2,v3,v4⟩:=ev
    cases hq:(c.P gA).nil with
    |true=>
     have hz:=iR hq;have ex:=v3 hq;have hi0:CE=0:=by omega
     have lo0:CK=0:=by omega
     subst hi0;subst lo0;have h0:hh=0:=by simp at c2;omega
     have l0:l=0:=by omega
     subst h0;subst l0;have hr:=ja (P:=P) (te:=te) hE hu ht dp (A:=aj) (n:=0) (cp:=0) hl (by simpa using vk) (by omega) (by omega) (by simp);refine fL b7 dp hd (s:= .v ak [.vw gA (0+(0:az).toNat) (0+(0:az).toNat)]) (v:= .slice aj 0 0) ⟨cu _,bz _,λ_=>rfl,λhf=>by rw[hq]at hf;cases hf⟩ (λm hm=>by simp[cw,bE]at hm;subst hm;rw[hg];simp) (exec ex (by simpa using hr))
    |false=>
     have hcp:=hcp hq;rcases v4 hq with ⟨u1,ex⟩|⟨u1,oo,u2,ex⟩
     ·have hr:=ja (P:=P) (te:=te) hE hu ht dp (A:=ah (ad (c.P gA).blk ((c.P gA).off+CK*(c.P gA).sz))) (n:=CE-CK) (cp:=(c.P gA).cap-CK) hl vk c0 c1 (by omega);refine fL b7 dp hd (s:= .v ak [.vw gA (CK+l.toNat) (CK+hh.toNat)]) ⟨by omega,by omega,λhf=>(by rw[hq]at hf;cases hf),λ_=> ?_⟩ (λm hm=>by simp[cw,bE]at hm;subst hm;rw[hg];simp) (exec ex hr);by_cases hle:(c.P gA).cap-CK=l.toNat
      ·refine .inr ⟨by omega,(c.P gA).off+CK*(c.P gA).sz, ?_, ?_⟩
       ·have:=bY (c.P gA).sz (Nat.le_of_lt u1);omega
       ·rw[bw hle,show hh.toNat-l.toNat=0 by omega,show(c.P gA).cap-CK-l.toNat=0 by omega]
      ·refine .inl ⟨by omega, ?_⟩;rw[bH hle];simp only[h_,Addr.mK,fH];rw[show CK+hh.toNat-(CK+l.toNat)=hh.toNat-l.toNat by omega,show(c.P gA).cap-(CK+l.toNat)=(c.P gA).cap-CK-l.toNat by omega,c7,lB]
     ·have hr:=ja (P:=P) (te:=te) hE hu ht dp (A:=ah (ad (c.P gA).blk oo)) (n:=0) (cp:=0) hl (by rw[show CE-CK=0 by omega]at vk;exact vk) c0 c1 (by omega);have h0:hh=0:=by omega
      have l0:l=0:=by omega
      subst h0;subst l0;refine fL b7 dp hd (s:= .v ak [.vw gA (CK+(0:az).toNat) (CK+(0:az).toNat)]) (v:= .slice (ah (ad (c.P gA).blk oo)) 0 0) ⟨cu _,by simp;omega,λhf=>(by rw[hq]at hf;cases hf),λ_=> .inr ⟨by simpa using u1,oo,u2,rfl⟩⟩ (λm hm=>by simp[cw,bE]at hm;subst hm;rw[hg];simp) (exec ex (by simpa using hr))
   cases ob with
   |row e' ex xs=>obtain⟨Bb,h4⟩:=cy h3;have:=aR Bb;subst this;obtain⟨i1,i2,ti,i3,i4,i5⟩:=kG b7 hg;exact main ⟨ti,i3,i4⟩ (λhn=>by rw[i1,i2 hn];rfl) (λh=>(i5 h).1) h4
   |fE e' xs=>
    obtain⟨Bb,h4⟩:=cy h3;have:=aR Bb;subst this;obtain⟨i1,i2,i3⟩:=mj b7 hg;refine main i3 (λhn=>by rw[i1,i2 hn];rfl) (λM6=> ?_) h4;obtain⟨j1,j2,_⟩:=b7.obj gA _ hg;rw[eG M6]at j1;by_cases hz:0<xs.length
    ·obtain⟨t3,U,L⟩:=j1.Hs hz;rw[j2];exact L.cap
    ·omega
   |_=>simp at h3
  |inn gA i j=>
   obtain⟨ob,hg,h3⟩:=Rd.bind_some h3;have hg:=c9 hg;cases ob with
   |row e' ex xs=>
    cases ex with
    |false=>simp at h3
    |true=>
     obtain⟨t1,TQ,h3⟩:=Rd.bind_some h3;have TQ:=dH TQ;split at h3
     ·rename_i e2 wM;obtain⟨Bb,h4⟩:=cy h3;have:=aR Bb;subst this;obtain⟨⟨jL,hx⟩,hFv⟩:=ev;obtain⟨⟨tj,U6,avj,lj⟩,fG,_⟩:=b7.obj gA _ hg;obtain rfl:t1=tj:=aD (TQ.symm.trans U6);obtain⟨zs,y',hy,Vf,uu,_,ti,ht,rP,fH,Bh,my⟩:=qd (c:=c) fG lj jL wM;rw[eK hy Vf]at h4;obtain⟨l,hl,h4⟩:=Rd.bind_some h4;obtain⟨hh,vk,h4⟩:=Rd.bind_some h4;obtain⟨rfl,rfl⟩:=bS (aD h4);obtain rfl:=aD h;have hc:iS l hh zs.length=true:=hc;have vk:(mC hi (zs.length:az)).val σ=ah hh:=vk;simp only[iS,aJ,bc]at hc;obtain⟨⟨c0,c1⟩,c2⟩:=hc;have hn:=my.n;cases hq:(c.G gA i j).nil with
      |true=>
       rw[mg hq]at hx;have hz:=(my.nil hq).1;subst hz;have h0:hh=0:=by simp at c2;omega
       have l0:l=0:=by omega
       subst h0;subst l0;have hr:=ja (P:=P) (te:=ti) hE hu ht dp (A:=aj) (n:=0) (cp:=0) hl vk (by omega) (by omega) (by simp);refine fL b7 dp hd (s:= .v ak [.iv gA i j 0 0]) (v:= .slice aj 0 0) ⟨⟨jL,cu _,bz _,λ_=>rfl,λhf=>by rw[hq]at hf;cases hf⟩,hFv⟩ (λm hm=>by simp[cw,bE]at hm;subst hm;rw[hg];simp) (exec hx (by simpa using hr))
      |false=>
       rw[eG hq]at hx;have hcp:(c.G gA i j).n<=(c.G gA i j).cap:=by obtain⟨_,_,q,_⟩:=my.mem hq;exact q
       have hr:=ja (P:=P) (te:=ti) hE hu ht dp (A:=ah (ad (c.G gA i j).blk (c.G gA i j).off)) (n:=(c.G gA i j).n) (cp:=(c.G gA i j).cap) hl (by rw[hn];exact vk) c0 c1 (by omega);refine fL b7 dp hd (s:= .v ak [.iv gA i j l.toNat hh.toNat]) ⟨⟨jL,by omega,by omega,λhf=>(by rw[hq]at hf;cases hf),λ_=> ?_⟩,hFv⟩ (λm hm=>by simp[cw,bE]at hm;subst hm;rw[hg];simp) (exec hx hr);by_cases hle:(c.G gA i j).cap=l.toNat
       ·refine .inr ⟨hle.symm,(c.G gA i j).off,by omega, ?_⟩;rw[bw hle,show hh.toNat-l.toNat=0 by omega,show(c.G gA i j).cap-l.toNat=0 by omega]
       ·refine .inl ⟨by omega, ?_⟩;rw[bH hle];simp only[h_,Addr.mK,fH]
     ·simp at h3
   |_=>simp at h3
  |nl=>
   obtain⟨l,hl,h4⟩:=Rd.bind_some h3;obtain⟨hh,vk,h4⟩:=Rd.bind_some h4;obtain⟨rfl,rfl⟩:=bS (aD h4);obtain rfl:=aD h;have hc:iS l hh 0=true:=hc;simp only[iS,aJ,bc]at hc;obtain⟨⟨c0,c1⟩,c2⟩:=hc;have h0:hh=0:=by omega
   have l0:l=0:=by omega
   subst h0;subst l0;have hr:=ja (P:=P) (te:=te) hE hu JB dp (A:=aj) (n:=0) (cp:=0) hl vk (by omega) (by omega) (by simp);exact fL b7 dp hd (s:= .v ak [.nl]) (v:= .slice aj 0 0) rfl (λn hn=>by simp[cw,bE]at hn) (exec ev (by simpa using hr))
  |_=>simp[Sa,R_]at h3
 |_=>simp[J_]at h3
end
end Go.FG

namespace Go.FG
section
variable {P:cM} {E:fm} {σ:St} {a:Act} {w:bD} {c:eJ} {o:eV} {nm:aE} {e:rW}
theorem NC(b7:Ok E σ w c){x:AV}{v:bf}(hx:ea E w c x v){el:aE}{xs:aU}(h:(lS E x).val σ=ah (el,xs)):∃A cp,v= .slice A xs.length cp:=by
 cases x with
 |sh e' ys=>
  obtain⟨rfl,rfl⟩:=bS (aD h);have hx:cT E w c.K v (.l e' ys):=hx;cases hx with
  |nl=>exact⟨_,_,rfl⟩
  |l=>exact⟨_,_,rfl⟩
 |own n=>
  obtain⟨ob,hg,h⟩:=Rd.bind_some h;have hg:=c9 hg;have hx:v=kY (c.P n):=hx;have main:∀ys:aU,(c.P n).n=ys.length->((c.P n).nil=ai->ys=[])->∃A cp,v= .slice A ys.length cp:=by
   intro ys h1 h2;cases hq:(c.P n).nil with
   |true=>rw[hx,mg hq,h2 hq];exact⟨_,_,rfl⟩
   |false=>rw[hx,eG hq,h1];exact⟨_,_,rfl⟩
  cases ob with
  |row e' ex ys=>obtain⟨rfl,rfl⟩:=bS (aD h);obtain⟨i1,i2,_⟩:=kG b7 hg;exact main _ i1 i2
  |fE e' ys=>obtain⟨rfl,rfl⟩:=bS (aD h);obtain⟨i1,i2,_⟩:=mj b7 hg;exact main _ i1 i2
  |_=>simp at h
 |vw n lo hi=>
  obtain⟨ob,hg,h⟩:=Rd.bind_some h;have hg:=c9 hg;obtain⟨v1,v2,v3,v4⟩:=hx;have main:∀ys:aU,(c.P n).n=ys.length->((c.P n).nil=ai->ys=[])->((c.P n).nil=ak->(c.P n).n<=(c.P n).cap)->∃A cp,v= .slice A (eu ys lo hi).length cp:=by
   intro ys h1 h2 h3;rw[lP (by omega)];cases hq:(c.P n).nil with
   |true=>have:=h2 hq;subst this;rw[v3 hq,show hi-lo=0 by simp at h1;omega];exact⟨_,_,rfl⟩
   |false=>
    rcases v4 hq with ⟨_,h⟩|⟨u1,oo,_,h⟩
    ·rw[h];exact⟨_,_,rfl⟩
    ·have:=h3 hq;rw[h,show hi-lo=0 by omega];exact⟨_,_,rfl⟩
  cases ob with
  |row e' ex ys=>obtain⟨rfl,rfl⟩:=bS (aD h);obtain⟨i1,i2,ti,_,_,i5⟩:=kG b7 hg;exact main _ i1 i2 (λh=>(i5 h).1)
  |fE e' ys=>
   obtain⟨rfl,rfl⟩:=bS (aD h);obtain⟨i1,i2,_⟩:=mj b7 hg;refine main _ i1 i2 (λM6=> ?_);obtain⟨j1,j2,_⟩:=b7.obj n _ hg;rw[eG M6]at j1;by_cases hz:0<ys.length
   ·obtain⟨t3,U,L⟩:=j1.Hs hz;rw[j2];exact L.cap
   ·omega
  |_=>simp at h
 |inn n i j=>
  obtain⟨ob,hg,h⟩:=Rd.bind_some h;have hg:=c9 hg;cases ob with
  |row e' ex ys=>
   cases ex with
   |false=>simp at h
   |true=>
   obtain⟨te,ht,h⟩:=Rd.bind_some h;have ht:=dH ht;split at h
   ·rename_i e2 wM;obtain⟨rfl,rfl⟩:=bS (aD h);obtain⟨⟨jL,hx⟩,_⟩:=hx;obtain⟨⟨tj,U6,fH,lj⟩,fG,_⟩:=b7.obj n _ hg;obtain rfl:te=tj:=aD (ht.symm.trans U6);obtain⟨zs,y',hy,Vf,uu,_,tk,Fb,rP,JA,Bh,my⟩:=qd (c:=c) fG lj jL wM;rw[eK hy Vf];cases hq:(c.G n i j).nil with
    |true=>rw[hx,mg hq,show iD (.l e2 zs)=zs from rfl,(my.nil hq).1];exact⟨_,_,rfl⟩
    |false=>rw[hx,eG hq,my.n];exact⟨_,_,rfl⟩
   ·simp at h
  |_=>simp at h
 |_=>simp[lS]at h
theorem mc{cl:Call}{b:Builtin}(ho:o.op= .call cl)(hb:cl.callee= .builtin b):
  ∃cs,(execOp a.eval o).run P w=(builtin b cl.argTypes o.type cs (cl.args.map a.eval)).run P w:=by unfold execOp;rw[ho];simp only[resolve,hb,ca,cG,bA,invoke];exact⟨_,rfl⟩
theorem mS{α:Type}{x:c_ α}{y:α}(h:x.toList=[y]):x= #[y]:=by apply rF;simpa using h
theorem BU{α:Type}{x:c_ α}{y z:α}(h:x.toList=[y,z]):x= #[y,z]:=by apply rF;simpa using h
theorem adb(hE:d_ P E)(b7:Ok E σ w c)(dp:eS E σ a w c)(hd:∀d,o.dst=ah d->d<a.tmps.size){cl:Call}(ho:o.op= .call cl)(hb:cl.callee= .builtin .len)(h:(lE E nm o).val σ=ah e):gC P E σ a w c o e.ws:=by
 simp only[lE,ho,hb]at h;split at h
 ·rename_i x t hx ht;obtain⟨k,hk,h⟩:=Rd.bind_some h;obtain⟨v,h1,h⟩:=Rd.bind_some h;obtain⟨n,h2,h⟩:=Rd.bind_some h;obtain⟨ev,kv⟩:=iM dp h1;have hx:=mS hx;have ht:=mS ht;have exec:∀r,(vj #[t] o.type #[a.eval x]).run P w= .ok r w->(execOp a.eval o).run P w= .ok (.value r) w:=by intro r hr;obtain⟨cs,B_⟩:=mc (P:=P) (a:=a) (w:=w) ho hb;rw[B_,hx,ht];simp only[builtin,Cj,eW,Av];exact iJ hr
  have fin:∀m:aE,n=m->(vj #[t] o.type #[a.eval x]).run P w= .ok (goInt m) w->gC P E σ a w c o e.ws:=by intro m hm hr;subst hm;exact fO b7 dp hd h (v:=goInt m) rfl (λn hn=>by simp[cw,bE]at hn) (exec _ hr)
  cases k with
  |s=>cases v with
   |s s=>obtain rfl:=aD h2;have ev:a.eval x= .string s:=ev.1;exact fin s.size rfl (by rw[ev];simp[vj,run_underlying (kE hE hk)])
   |_=>simp[acE]at h2
  |l el=>
   have hu:=j7 hE hk;have sl:∀A (m:aE) cp,a.eval x= .slice A m cp->n=m->gC P E σ a w c o e.ws:=by intro A m cp hv hn;exact fin m hn (by rw[hv];simp[vj,run_underlying hu])
   have gen:∀(el':aE) (xs:aU),(lS E v).val σ=ah (el',xs)->n=xs.length->gC P E σ a w c o e.ws:=by intro el' xs hr hn;obtain⟨A,cp,hv⟩:=NC b7 ev hr;exact sl _ _ _ hv hn
   cases v with
   |nl=>obtain rfl:=aD h2;exact sl aj 0 0 ev rfl
   |vw m lo hi=>
    obtain⟨ob,hg,h2⟩:=Rd.bind_some h2;have hg:=c9 hg;have r1:∃(e1:aE) (ys:aU),(lS E (.vw m lo hi)).val σ=ah (e1,eu ys lo hi)/\(c.P m).n=ys.length/\n=((hi-lo:aE):az):=by
     cases ob with
     |row e1 ex ys=>exact⟨e1,ys,by simp[lS,i_,hg],(kG b7 hg).1,(aD h2).symm⟩
     |fE e1 ys=>exact⟨e1,ys,by simp[lS,i_,hg],(mj b7 hg).1,(aD h2).symm⟩
     |_=>simp at h2
    obtain⟨e1,ys,h5,h6,h7⟩:=r1;refine gen e1 _ h5 ?_;rw[lP (by have:=ev.2.1;omega)];exact h7
   |_=>obtain⟨⟨el',xs⟩,hr,h3⟩:=Rd.bind_some h2;obtain rfl:=aD h3;exact gen el' xs hr rfl
  |_=>simp[acE]at h2
 ·simp at h
end
end Go.FG

namespace Go.FG
section
variable {P:cM} {E:fm} {σ:St} {a:Act} {w:bD} {c:eJ} {o:eV} {nm:aE} {e:rW}
theorem yA{α:Type}{x:aC α}{σ:St}{r:α}(h:(RF x).val σ=ah r):x=ah r:=by
 cases x with
 |none=>simp[RF]at h
 |some y=>exact h
theorem ada(hE:d_ P E)(b7:Ok E σ w c)(dp:eS E σ a w c)(hd:∀d,o.dst=ah d->d<a.tmps.size){cl:Call}(ho:o.op= .call cl)(hb:cl.callee= .builtin .cap)(h:(lE E nm o).val σ=ah e):gC P E σ a w c o e.ws:=by
 simp only[lE,ho,hb]at h;split at h
 ·rename_i x t hx ht;obtain⟨k,hk,h⟩:=Rd.bind_some h;have hx:=mS hx;have ht:=mS ht;cases k with
  |l el=>
   obtain⟨v,h1,h⟩:=Rd.bind_some h;obtain⟨ev,kv⟩:=iM dp h1;have hu:=j7 hE hk;cases v with
   |nl=>refine fO b7 dp hd h (v:=goInt 0) rfl (λn hn=>by simp[cw,bE]at hn) ?_;obtain⟨cs,B_⟩:=mc (P:=P) (a:=a) (w:=w) ho hb;rw[B_,hx,ht];simp only[builtin,Cj,eW,Av];refine iJ ?_;rw[show a.eval x= .slice aj 0 0 from ev];simp[Builtin.cap_,run_underlying hu]
   |_=>simp at h
  |_=>simp at h
 ·simp at h
theorem JJ(dp:eS E σ a w c)(mx:aW):∀(r:ay da) (k:mG) (n:az) (v:AV),(wa mx r k n).val σ=ah v->
  ∃m,v= .i k m/\((r.map a.eval).foldlM (if mx then C1 else C2) (.int k n)).run P w= .ok (.int k m) w:=by
 intro r;induction r with
 |nil=>intro k n v h;obtain rfl:=aD h;exact⟨n,rfl,rfl⟩
 |cons x r ih=>
  intro k n v h;obtain⟨⟨k2,m⟩,h1,h2⟩:=Rd.bind_some h;have hx:=ph dp h1;obtain⟨q,hq,hr⟩:=ih k (kW mx n m) v h2;refine⟨q,hq, ?_⟩
  simp only[eW,List.foldlM_cons,ca,hx];cases mx with
  |true=>
   have:(C1 (.int k n) (.int k2 m)).run P w= .ok (.int k (kW ai n m)) w:=by simp[C1,kW]
   simp only[if_true,this,bA]at hr⊢;exact hr
  |false=>
   have:(C2 (.int k n) (.int k2 m)).run P w= .ok (.int k (kW ak n m)) w:=by simp[C2,kW]
   simp only[dg,if_false,this,bA]at hr⊢;exact hr
theorem DF(mx:aW)(b7:Ok E σ w c)(dp:eS E σ a w c)(hd:∀d,o.dst=ah d->d<a.tmps.size){cl:Call}(ho:o.op= .call cl)(hb:cl.callee= .builtin (if mx then .max else .min))(h:(lE E nm o).val σ=ah e):gC P E σ a w c o e.ws:=by
 have main:∀x r,cl.args.toList=x::r->((Bu x).bind λ(k,n)=>(wa mx r k n).bind λv=>yJ o v).val σ=ah e->gC P E σ a w c o e.ws:=by
  intro x r hx h;obtain⟨⟨k,n⟩,h1,h⟩:=Rd.bind_some h;obtain⟨v,h2,h⟩:=Rd.bind_some h;have ex:=ph dp h1;obtain⟨m,rfl,hr⟩:=JJ (P:=P) dp mx r k n v h2;refine fO b7 dp hd h (v:= .int k m) rfl (λn hn=>by simp[cw,bE]at hn) ?_;obtain⟨cs,B_⟩:=mc (P:=P) (a:=a) (w:=w) ho hb;have ry:cl.args.map a.eval=((x::r).map a.eval).toArray:=by rw[<-hx];apply rF;simp
  rw[B_,ry];cases mx with
  |true=>simp only[if_true,builtin];refine iJ ?_;simp only[Builtin.max_,eW,ex];exact hr
  |false=>simp only[dg,if_false,builtin];refine iJ ?_;simp only[Builtin.min_,eW,ex];exact hr
 cases mx with
 |true=>
  simp only[lE,ho,hb,if_true]at h;split at h
  ·rename_i x r hx;exact main x r hx h
  ·simp at h
 |false=>
  simp only[lE,ho,hb,dg,if_false]at h;split at h
  ·rename_i x r hx;exact main x r hx h
  ·simp at h
theorem R4{op:BinOp}{t:aE}{k:mG}{m n:az}{b:aW}{v:AV}(hs:Na op=ak)(h:abu op k m n=ah (b,v))(hb:b=ai):
  ∃u,ea E w c v u/\bE v=[]/\(binOp op t (.int k m) (.int k n)).run P w= .ok u w:=by
 subst hb;cases op<;>simp only[abu,jg,iU,true_and,reduceCtorEq]at h<;>first|(simp[Na]at hs;done)|skip
 case quo=>
  obtain⟨h1,rfl⟩:=h
  have hn:¬n=0:=by simpa using h1
  exact⟨_,rfl,rfl,by simp[binOp,Op.intDiv,hn]⟩
 case rem=>
  obtain⟨h1,rfl⟩:=h
  have hn:¬n=0:=by simpa using h1
  exact⟨_,rfl,rfl,by simp[binOp,Op.intDiv,hn]⟩
 all_goals (subst h;exact⟨_,rfl,rfl,by simp[binOp,Op.intArith,Op.intBits,Op.intCmp]⟩)
theorem R5{op:BinOp}{t:aE}{m n:aq}{b:aW}{v:AV}(hs:Na op=ak)(h:abw op m n=ah (b,v))(hb:b=ai):
  ∃u,ea E w c v u/\bE v=[]/\(binOp op t (.string m) (.string n)).run P w= .ok u w:=by
 subst hb;cases op<;>simp only[abw,jg,iU,true_and,reduceCtorEq]at h<;>first|(simp[Na]at hs;done)|skip
 case add=>
  obtain⟨h1,rfl⟩:=h
  have h1:=cg h1
  refine⟨_,⟨rfl,by unfold Ge;rw[dv];omega⟩,rfl, ?_⟩
  have:¬(((m.size+n.size:aE):az)>ao.max):=by
   have:ao.max=9223372036854775807:=by decide
   omega
  simp only[binOp,Op.stringOp,bH this,cG]
 all_goals (subst h;exact⟨_,rfl,rfl,by simp[binOp,Op.stringOp]⟩)
theorem wm{op:BinOp}{t:aE}{x y:da}{u v:bf}(hu:∀xs,u≠ .agg xs)(hn:u≠ .nilIface):(eqGuard op t x y u v).run P w= .ok () w:=by unfold eqGuard;cases op<;>cases u<;>first|rfl|(exact cE rfl (hu _))|(exact cE rfl hn)|(cases v<;>rfl)
theorem wk{P:cM}(w:bD){t:aE}(h:P.underlying t=ah .bool)(m n:aW):(binOp .eql t (.bool m) (.bool n)).run P w= .ok (.bool (m==n)) w/\(binOp .neq t (.bool m) (.bool n)).run P w= .ok (.bool !(m==n)) w:=by
 have h1:(Op.equal t (.bool m) (.bool n)).run P w= .ok (m==n) w:=by show(Op.equalIn (9999+1) t (.bool m) (.bool n)).run P w=_;exact run_equalIn_bool w 9999 t m n h
 simp only[binOp,ca,h1,bA,cG];exact⟨trivial,trivial⟩
theorem BH{xs:ay AV}{ks:ay Ck}(hk:xs.map Fh=ks)(hp:plain ks=ai){vals:c_ bf}(hs:vals.size=xs.length)(hv:∀(j:aE) (a:AV),xs[j]? =ah a->∃u:bf,vals[j]? =ah u/\ea E w c a u):vals=(xs.map ly).toArray:=by
 apply rF;apply Ts;intro j;simp only[cF,bF];cases hx:xs[j]? with
 |none=>have:=List.getElem?_eq_none_iff.1 hx;simp;omega
 |some a=>
  obtain⟨u,hu,ha⟩:=hv j a hx;rw[hu];have hm:Fh a∈ks:=by rw[<-hk];exact cO.2 ⟨a,aP hx,rfl⟩
  have mA:=bu.1 hp _ hm;cases a<;>simp[Fh]at mA<;>first|(have h1:u=_:=ha;rw[h1];rfl)|(have h1:u=_:=ha.1;rw[h1];rfl)
theorem Uu(hE:d_ P E){op:BinOp}{t:aE}{x y:da}{sx sy:SV}{ux uy:bf}(ex:iW E w c sx ux)(ey:iW E w c sy uy){b:aW}{v:AV}(h3:(abv E t op sx sy).val σ=ah (b,v))(hc:b=ai):
  ∃u,ea E w c v u/\bE v=[]/\(do eqGuard op t x y ux uy;binOp op t ux uy).run P w= .ok u w:=by
 have fin:∀u,ea E w c v u->bE v=[]->(do eqGuard op t x y ux uy;binOp op t ux uy).run P w= .ok u w->∃u,ea E w c v u/\bE v=[]/\(do eqGuard op t x y ux uy;binOp op t ux uy).run P w= .ok u w:=
  λu hu hn hr=>⟨u,hu,hn,hr⟩
 have pl:∀u1 u2 r,ux=u1->uy=u2->(∀xs,u1≠ .agg xs)->u1≠ .nilIface->(binOp op t u1 u2).run P w= .ok r w->(do eqGuard op t x y ux uy;binOp op t ux uy).run P w= .ok r w:=by intro u1 u2 r h1 h2 h3 h4 h5;rw[h1,h2];simp only[ca,wm (P:=P) (w:=w) (op:=op) (t:=t) (x:=x) (y:=y) (v:=u2) h3 h4,bA,h5]
 unfold abv at h3;split at h3
 ·rename_i p q;have ex:ea E w c p ux:=ex;have ey:ea E w c q uy:=ey;cases lj:Na op with
  |true=>
   rw[lj]at h3;replace h3:=yA h3;cases p<;>cases q<;>first|(simp[shV]at h3;done)|skip
   cases op<;>simp only[shV,jg,iU,reduceCtorEq]at h3<;>(obtain⟨rfl,rfl⟩:=h3)
   ·refine fin _ rfl rfl (pl _ _ _ ex ey (by simp) (by simp) ?_);have:¬(_:az)<0:=Int.not_lt.2 (cg hc);simp[binOp,Op.shift,this]
   ·refine fin _ rfl rfl (pl _ _ _ ex ey (by simp) (by simp) ?_);have:¬(_:az)<0:=Int.not_lt.2 (cg hc);simp[binOp,Op.shift,this]
  |false=>
   rw[lj]at h3;obtain⟨k,hk,h3⟩:=Rd.bind_some h3;replace h3:=yA h3;cases p with
   |i k1 m=>
    cases q with
    |i k2 n=>
     have h9:=h3;simp only[IW]at h9;split at h9
     ·rename_i Qs;subst Qs;obtain⟨u,hu,hn,hr⟩:=R4 (P:=P) (t:=t) (E:=E) (c:=c) (w:=w) lj h9 hc;exact fin u hu hn (pl _ _ _ ex ey (by simp) (by simp) hr)
     ·cases h9
    |_=>simp[IW]at h3
   |s m=>
    cases q with
    |s n=>obtain⟨u,hu,hn,hr⟩:=R5 (P:=P) (t:=t) (E:=E) (c:=c) (w:=w) lj h3 hc;exact fin u hu hn (pl _ _ _ ex.1 ey.1 (by simp) (by simp) hr)
    |_=>simp[IW]at h3
   |b m=>
    cases q with
    |b n=>
     have Yd:k= .b->P.underlying t=ah .bool:=by rintro rfl;obtain⟨ti,q1,q2,q3⟩:=qO hk;obtain⟨d,Yg,_,hn⟩:=hE.desc t ti q1;rcases hn q2 with ⟨k,h,_⟩|⟨h,rfl⟩|⟨h,_⟩|⟨e',h,_⟩|⟨h,_⟩<;>rw[q3]at h<;>simp_all
     cases op<;>cases k<;>simp only[IW,jg,iU,reduceCtorEq]at h3<;>(obtain⟨rfl,rfl⟩:=h3)
     ·refine fin _ rfl rfl (pl _ _ _ ex ey (by simp) (by simp) ?_);exact(wk (P:=P) w (Yd rfl) _ _).1
     ·refine fin _ rfl rfl (pl _ _ _ ex ey (by simp) (by simp) ?_);exact(wk (P:=P) w (Yd rfl) _ _).2
    |_=>simp[IW]at h3
   |_=>simp[IW]at h3
 ·rename_i xs ys;obtain⟨ti,ht,h3⟩:=Rd.bind_some h3;have ht:=dH ht;obtain⟨h4,h3⟩:=cy h3;simp only[aJ]at h4;obtain⟨⟨⟨⟨h5,h6⟩,h7⟩,h8⟩,h9⟩:=h4;have h7:=qL h7;have h8:=qL h8;replace h3:=yA h3;obtain⟨X,hX,sX,vX⟩:=ex;obtain⟨Y,hY,sY,vY⟩:=ey;have eX:=BH h7 h9 sX vX;have eY:=BH h8 h9 sY vY;cases hq:UI xs ys with
  |none=>rw[hq]at h3;cases h3
  |some r=>
   rw[hq]at h3;obtain⟨r1,r2⟩:=hE.eq t ti h6 ht w x y xs ys r hq h7 h8;cases op<;>first|(simp[isEq]at h5;done)|skip
   ·obtain⟨_,rfl⟩:=bS (aD h3);exact fin _ rfl rfl (by rw[hX,hY,eX,eY];exact r1)
   ·obtain⟨_,rfl⟩:=bS (aD h3);exact fin _ rfl rfl (by rw[hX,hY,eX,eY];exact r2)
 ·simp at h3
theorem Ry(hE:d_ P E)(b7:Ok E σ w c)(dp:eS E σ a w c)(hd:∀d,o.dst=ah d->d<a.tmps.size){op:BinOp}{t ty:aE}{x y:da}(ho:o.op= .binOp op t x y ty)(h:(lE E nm o).val σ=ah e)(hc:e.cond=ai):gC P E σ a w c o e.ws:=by simp only[lE,ho]at h;obtain⟨sx,h1,h⟩:=Rd.bind_some h;obtain⟨sy,h2,h⟩:=Rd.bind_some h;obtain⟨⟨b,v⟩,h3,h⟩:=Rd.bind_some h;obtain rfl:=aD h;obtain⟨u,hu,hn,hr⟩:=Uu (P:=P) (x:=x) (y:=y) hE (lL dp h1).1 (lL dp h2).1 h3 hc;refine fL b7 dp hd (s:= .v ak [v]) hu (λn j5=>by simp[cw,hn]at j5) ?_;unfold execOp;rw[ho];exact iJ hr
end
end Go.FG

namespace Go.FG
theorem Kj{p:Pl}(hn:p.nil=ak->p.n<=p.cap)(hz:p.nil=ai->p.n=0):uT p 0 p.n (kY p):=by
 refine⟨bz _,cu _,λh=>mg h,λh=> ?_⟩
 rw[eG h];by_cases hc:p.cap=0
 ·refine .inr ⟨hc.symm,p.off,Nat.le_add_right _ _, ?_⟩;have:=hn h;rw[hc,show p.n=0 by omega]
 ·refine .inl ⟨by omega, ?_⟩;simp
theorem qj(xs:aU):eu xs 0 xs.length=xs:=by unfold eu;simp
def nH(w:bD)(v:bf)(xs:aU)(sz:aE)(R:aE->aE->bf->CV->Prop):Prop:=
 ∃A cp,v= .slice A xs.length cp/\(xs≠[]->∃b o,A=ah (ad b o)/\∀(i:aE) (y:ay CV) (j:aE) (x:CV),xs[i]? =ah y->y[j]? =ah x->∃u:bf,w.cell? (ad b (o+i*sz+j))=ah u/\R i j u x)
theorem nH.imp{w:bD}{v:bf}{xs:aU}{sz:aE}{R R':aE->aE->bf->CV->Prop}(h:nH w v xs sz R)(hR:∀(i:aE) (y:ay CV) (j:aE) (x:CV) (u:bf),xs[i]? =ah y->y[j]? =ah x->R i j u x->R' i j u x):nH w v xs sz R':=by
 obtain⟨A,cp,h1,h2⟩:=h;refine⟨A,cp,h1,λil=> ?_⟩
 obtain⟨b,o,h3,h4⟩:=h2 il;refine⟨b,o,h3,λi y j x hi hj=> ?_⟩
 obtain⟨u,hu,hr⟩:=h4 i y j x hi hj;exact⟨u,hu,hR i y j x u hi hj hr⟩
theorem Kd{w:bD}{p:Pl}{xs:aU}{R:aE->aE->bf->CV->Prop}{lo hi:aE}{v:bf}(h:iP w p xs R)(hv:uT p lo hi v):nH w v (eu xs lo hi) p.sz (λi j u x=>R (lo+i) j u x):=by
 obtain⟨v1,v2,v3,v4⟩:=hv;have hl:=lP (xs:=xs) (lo:=lo) (hi:=hi) (by rw[<-h.n];exact v2);cases hq:p.nil with
 |true=>
  have hx:=(h.nil hq).1;have h0:=h.n;rw[hx]at h0;refine⟨aj,0, ?_,λil=>cE (by rw[hx];unfold eu;simp) il⟩
  rw[v3 hq,hl];have:p.n=0:=h0;congr 1;omega
 |false=>
  obtain⟨vals,hb,Qv,UX,mz,hc⟩:=h.mem hq;rcases v4 hq with ⟨u1,rfl⟩|⟨u1,oo,u2,rfl⟩
  ·refine⟨_,_,by rw[hl],λil=>⟨_,_,rfl,λi y j x kZ hj=> ?_⟩⟩
   rw[sU]at kZ;split at kZ
   ·obtain⟨u,hu,hr⟩:=hc (lo+i) y j x kZ hj;refine⟨u, ?_,hr⟩
    rw[hb.cell,<-hu];congr 1;rw[c7];omega
   ·cases kZ
  ·have h0:hi-lo=0:=by omega
   refine⟨_,_,by rw[hl,h0],λil=>cE (fV (hl.trans h0)) il⟩
theorem Bg{E:fm}{w:bD}{K:aE->Prop}{p:Pl}{e:aE}{te:TI}{xs:aU}(he:E.ty e=ah te)(h:cT E w K (kY p) (.l e xs))(hn:p.n=xs.length)(hs:p.sz=te.ks.length){lo hi:aE}{v:bf}(hv:uT p lo hi v):cT E w K v (.l e (eu xs lo hi)):=by
 obtain⟨v1,v2,v3,v4⟩:=hv;have hl:=lP (xs:=xs) (lo:=lo) (hi:=hi) (by rw[<-hn];exact v2);have nil:hi-lo=0->eu xs lo hi=[]:=λh0=>fV (hl.trans h0);cases hq:p.nil with
 |true=>
  rw[mg hq]at h;have hx:xs=[]:=by cases h;rfl
  subst hx;have hn:p.n=0:=hn;rw[v3 hq,nil (by omega)];exact .nl _ _ _
 |false=>
  rw[eG hq]at h;rcases v4 hq with ⟨u1,rfl⟩|⟨u1,oo,u2,rfl⟩
  ·have:=(Dx (lo:=lo) (hi:=hi) he h v1 (by rw[<-hn];exact v2)).2;rw[bH (by omega)]at this;simpa only[h_,Addr.mK,hs]using this
  ·by_cases hz:hi-lo=0
   ·rw[nil hz];exact .nl _ _ _
   ·have h1:0<xs.length:=by omega
    obtain⟨t3,U,L⟩:=h.Hs h1;have:=L.cap;omega
theorem yG{E:fm}{w:bD}{K:aE->Prop}{v:bf}{e:aE}{te:TI}{xs:aU}(he:E.ty e=ah te)(h:cT E w K v (.l e xs)):nH w v xs te.ks.length (λ_ _ u x=>cT E w K u x)/\∀y∈xs,y.map CV.kd=te.ks:=by
 cases h with
 |nl=>exact⟨⟨_,_,rfl,λh=>cE rfl h⟩,λy hy=>by cases hy⟩
 |l _ _ b o cp ti U ht hc hm hK hs hcell g9=>obtain rfl:te=ti:=aD (he.symm.trans ht);exact⟨⟨_,_,rfl,λ_=>⟨b,o,rfl,λi y j x hi hj=>⟨U i j,hcell i j y x hi hj,g9 i j y x hi hj⟩⟩⟩,hs⟩
theorem oF{E:fm}{w:bD}{K:aE->Prop}{u:bf}{x:CV}(h:cT E w K u x)(hl:tf x=ak):Sc u x:=by
 cases h with
 |i=>exact⟨rfl,trivial⟩
 |b=>exact⟨rfl,trivial⟩
 |s _ h=>exact⟨rfl,h⟩
 |nl=>simp[tf]at hl
 |l=>simp[tf]at hl
theorem jx{E:fm}{w:bD}{K:aE->Prop}{u:bf}{x:CV}(hl:tf x=ak)(h:Sc u x):cT E w K u x:=by
 obtain⟨h1,h2⟩:=h;subst h1;cases x with
 |i k n=>exact .i k n
 |b x=>exact .b x
 |s x=>exact .s x h2
 |l=>simp[tf]at hl
theorem tE{E:fm}{w:bD}{G:aE->aE->Pl}{i j:aE}{u:bf}{x:CV}(h:XC E w G i j u x)(hl:tf x=ak):Sc u x:=by
 cases x with
 |l=>simp[tf]at hl
 |i=>exact h
 |b=>exact h
 |s=>exact h
theorem tB{E:fm}{w:bD}{G:aE->aE->Pl}{i j:aE}{u:bf}{x:CV}(hl:tf x=ak)(h:Sc u x):XC E w G i j u x:=by
 cases x with
 |l=>simp[tf]at hl
 |i=>exact h
 |b=>exact h
 |s=>exact h
theorem nH.list{w:bD}{v:bf}{xs:aU}{sz:aE}{R:aE->aE->bf->CV->Prop}(h:nH w v xs sz R)(hs:∀y∈xs,y.length=sz):
  ∃(A:aC Addr) (cp:aE) (news:ay bf),v= .slice A xs.length cp/\news.length=xs.length*sz/\(xs=[]\/∃b o,A=ah (ad b o)/\∀j u,news[j]? =ah u->w.cell? (ad b (o+j))=ah u)/\
   ∀(i:aE) (y:ay CV) (j:aE) (x:CV),xs[i]? =ah y->y[j]? =ah x->∃u:bf,news[i*sz+j]? =ah u/\R i j u x:=by
 obtain⟨A,cp,rfl,h2⟩:=h;by_cases hx:xs=[]
 ·subst hx;exact⟨A,cp,[],rfl,by simp, .inl rfl,λi y j x hi hj=>by simp at hi⟩
 ·obtain⟨b,o,h3,h4⟩:=h2 hx;have ex:∀q,q<xs.length*sz->∃u,w.cell? (ad b (o+q))=ah u:=by
   intro q hq;have fH:0<sz:=by rcases B5 sz with h|h;(subst h;simp at hq);exact h
   have hi:q/sz<xs.length:=by rw[wJ fH];exact hq
   have hj:q%sz<xs[q/sz].length:=by rw[hs _ (bC hi)];exact B6 _ fH
   obtain⟨u,hu,_⟩:=h4 (q/sz) xs[q/sz] (q%sz) (xs[q/sz][q%sz]) (by simp[hi]) (by simp[hj]);refine⟨u, ?_⟩
   rw[<-hu];congr 2;have:=Ic q sz;rw[C5]at this;omega
  refine⟨A,cp,(cJ (xs.length*sz)).map (λq=>(w.cell? (ad b (o+q))).getD undef),rfl,by simp, .inr ⟨b,o,h3,λj u hj=> ?_⟩,λi y j x hi hj=> ?_⟩
  ·rw[bF]at hj;by_cases js:j<xs.length*sz
   ·obtain⟨u',rA⟩:=ex j js;simp only[js,uH,h_,rA,wZ,jg]at hj;rw[rA,hj]
   ·rw[km (l:=cJ (xs.length*sz)) (by simpa using js)]at hj;cases hj
  ·obtain⟨u,hu,hr⟩:=h4 i y j x hi hj;refine⟨u, ?_,hr⟩
   have hil:=(aT.1 hi).1;have js:=(aT.1 hj).1;rw[hs y (aP hi)]at js;have jt:i*sz+j<xs.length*sz:=by have:(i+1)*sz<=xs.length*sz:=bY _ hil;rw[c7]at this;omega
   rw[bF,uH jt,h_];rw[show o+(i*sz+j)=o+i*sz+j by omega,hu];rfl
section
variable {P:cM} {E:fm} {σ:St} {a:Act} {w:bD} {c:eJ} {o:eV} {nm:aE} {e:rW}
theorem wj(b7:Ok E σ w c){nm e:aE}{ex:aW}{xs:aU}(h:σ (cR nm)= .o (.row e ex xs)){lo hi:aE}{v:bf}(hv:uT (c.P nm) lo hi v):
  ∃te,E.ty e=ah te/\(∀y∈eu xs lo hi,y.map CV.kd=te.ks)/\nH w v (eu xs lo hi) te.ks.length (λi j u x=>if ex=ai then XC E w (c.G nm) (lo+i) j u x else cT E w c.K u x):=by obtain⟨⟨ti,h1,h2,h3⟩,h4,_⟩:=b7.obj nm _ h;have:=Kd h4 hv;rw[h2]at this;exact⟨ti,h1,λy hy=>h3 y (Bm hy),this⟩
theorem vf(b7:Ok E σ w c){nm e:aE}{ex:aW}{xs:aU}(h:σ (cR nm)= .o (.row e ex xs)):uT (c.P nm) 0 xs.length (kY (c.P nm)):=by obtain⟨h1,h2,ti,h3,h4,h5⟩:=kG b7 h;rw[<-h1];exact Kj (λhn=>(h5 hn).1) (λhn=>by rw[h1,h2 hn];rfl)
theorem G7(b7:Ok E σ w c){nm e:aE}{xs:aU}(h:σ (cR nm)= .o (.fE e xs)):uT (c.P nm) 0 xs.length (kY (c.P nm)):=by
 obtain⟨h1,h2,ti,h3,h4⟩:=mj b7 h;rw[<-h1];refine Kj (λhn=> ?_) (λhn=>by rw[h1,h2 hn];rfl);obtain⟨j1,j2,_⟩:=b7.obj nm _ h;rw[eG hn]at j1;by_cases hz:0<xs.length
 ·obtain⟨t3,U,L⟩:=j1.Hs hz;rw[j2];exact L.cap
 ·omega
theorem oE(b7:Ok E σ w c){nm e:aE}{xs:aU}(h:σ (cR nm)= .o (.fE e xs)){lo hi:aE}{v:bf}(hv:uT (c.P nm) lo hi v):cT E w c.K v (.l e (eu xs lo hi)):=by obtain⟨h1,h2,ti,h3,h4⟩:=b7.obj nm _ h;exact Bg h3 h1 h2 h4 hv
theorem v8(b7:Ok E σ w c){nm e e2 i j:aE}{xs:aU}{te:TI}(h:σ (cR nm)= .o (.row e ai xs))(ht:E.ty e=ah te)(hk:te.ks[j]? =ah (.l e2))(hi:i<(c.P nm).n):
  ∃ys y t2,xs[i]? =ah y/\y[j]? =ah (.l e2 ys)/\E.ty e2=ah t2/\plain t2.ks=ai/\(c.G nm i j).sz=t2.ks.length/\(∀y∈ys,y.map CV.kd=t2.ks)/\iP w (c.G nm i j) ys (λ_ _ u x=>Sc u x)/\uT (c.G nm i j) 0 ys.length (kY (c.G nm i j)):=by
 obtain⟨⟨tj,U6,fH,lj⟩,fG,_⟩:=b7.obj nm _ h;obtain rfl:te=tj:=aD (ht.symm.trans U6);obtain⟨zs,y,hy,Vf,uu,_,tk,Fb,rP,JA,Bh,my⟩:=qd (c:=c) fG lj hi hk;refine⟨zs,y,tk,hy,Vf,Fb,rP,JA,Bh,my, ?_⟩
 have:=Kj (p:=c.G nm i j) (λhn=>by obtain⟨_,_,q,_⟩:=my.mem hn;exact q) (λhn=>by rw[my.n,(my.nil hn).1];rfl);rwa[my.n]at this
theorem M7{E:fm}{w:bD}{K:aE->Prop}{v:bf}{e:aE}{xs:aU}(h:cT E w K v (.l e xs)):xs.length<=maxLen:=by
 cases h with
 |nl=>exact bz _
 |l _ _ b o cp ti U ht hc hm=>exact c6 hc hm
theorem tz{w:bD}{p:Pl}{xs:aU}{R:aE->aE->bf->CV->Prop}(h:iP w p xs R):xs.length<=maxLen:=by
 cases hn:p.nil with
 |true=>rw[(h.nil hn).1];exact bz _
 |false=>obtain⟨vals,_,h2,h3,_⟩:=h.mem hn;rw[<-h.n];exact c6 h2 h3
theorem H9(xs:aU)(lo hi:aE):(eu xs lo hi).length<=xs.length:=by unfold eu;simp;omega
theorem zf(b7:Ok E σ w c){x:AV}{v:bf}(hx:ea E w c x v){el:aE}{xs:aU}{te:TI}(h:(lS E x).val σ=ah (el,xs))(ht:E.ty el=ah te)(hp:plain te.ks=ai):
  nH w v xs te.ks.length (λ_ _ u x=>Sc u x)/\(∀y∈xs,y.map CV.kd=te.ks)/\xs.length<=maxLen:=by
 have ofH:∀{xs:aU} {v:bf},cT E w c.K v (.l el xs)->nH w v xs te.ks.length (λ_ _ u x=>Sc u x)/\(∀y∈xs,y.map CV.kd=te.ks)/\xs.length<=maxLen:=by intro xs v hh;obtain⟨h1,h2⟩:=yG ht hh;exact⟨h1.imp λi y j x u hi hj hr=>oF hr (gJ hp (h2 y (aP hi)) hj),h2,M7 hh⟩
 have ofR:∀{nm:aE} {ex:aW} {xs:aU} {lo hi:aE} {v:bf},σ (cR nm)= .o (.row el ex xs)->uT (c.P nm) lo hi v->nH w v (eu xs lo hi) te.ks.length (λ_ _ u x=>Sc u x)/\(∀y∈eu xs lo hi,y.map CV.kd=te.ks)/\(eu xs lo hi).length<=maxLen:=by
  intro nm ex xs lo hi v hg hv;obtain⟨t2,q1,q2,q3⟩:=wj b7 hg hv;obtain rfl:te=t2:=aD (ht.symm.trans q1);refine⟨q3.imp λi y j x u hi hj hr=> ?_,q2,c6 (H9 _ _ _) (tz (b7.obj nm _ hg).at_)⟩
  have hl:=gJ hp (q2 y (aP hi)) hj;split at hr
  ·exact tE hr hl
  ·exact oF hr hl
 cases x with
 |sh e' ys=>obtain⟨rfl,rfl⟩:=bS (aD h);exact ofH hx
 |own n=>
  obtain⟨ob,hg,h⟩:=Rd.bind_some h;have hg:=c9 hg;have hx:v=kY (c.P n):=hx;subst hx;cases ob with
  |row e' ex ys=>obtain⟨rfl,rfl⟩:=bS (aD h);have:=ofR hg (vf b7 hg);rwa[qj]at this
  |fE e' ys=>obtain⟨rfl,rfl⟩:=bS (aD h);have:=ofH (oE b7 hg (G7 b7 hg));rwa[qj]at this
  |_=>simp at h
 |vw n lo hi=>
  obtain⟨ob,hg,h⟩:=Rd.bind_some h;have hg:=c9 hg;cases ob with
  |row e' ex ys=>obtain⟨rfl,rfl⟩:=bS (aD h);exact ofR hg hx
  |fE e' ys=>obtain⟨rfl,rfl⟩:=bS (aD h);exact ofH (oE b7 hg hx)
  |_=>simp at h
 |inn n i j=>
  obtain⟨ob,hg,h⟩:=Rd.bind_some h;have hg:=c9 hg;cases ob with
  |row e' ex ys=>
   cases ex with
   |false=>simp at h
   |true=>
   obtain⟨t1,TQ,h⟩:=Rd.bind_some h;have TQ:=dH TQ;split at h
   ·rename_i e2 wM;obtain⟨rfl,rfl⟩:=bS (aD h);obtain⟨⟨jL,hx⟩,_⟩:=hx;obtain⟨zs,y,t2,q1,q2,q3,q4,q5,q6,q7,q8⟩:=v8 b7 hg TQ wM jL;obtain rfl:te=t2:=aD (ht.symm.trans q3);rw[eK q1 q2];have:=Kd q7 q8;rw[qj,q5]at this;subst hx;exact⟨this,q6,tz q7⟩
   ·simp at h
  |_=>simp at h
 |_=>simp[lS]at h
end
end Go.FG

namespace Go.FG
def fD(E:fm)(w:bD)(c:eJ)(vals:c_ bf)(xs:ay AV):Prop:=
 vals.size=xs.length/\∀(j:aE) (a:AV),xs[j]? =ah a->∃u:bf,vals[j]? =ah u/\ea E w c a u
theorem pD.cells{E:fm}{w:bD}{c:eJ}{agg:aW}{xs:ay AV}{v:bf}(h:pD E w c agg xs v):fD E w c v.cells xs:=by
 unfold pD at h;split at h
 ·rename_i a;rw[Dh h.one];refine⟨rfl,λj a' hj=> ?_⟩
  cases j with
  |zero=>simp at hj;subst hj;exact⟨v,rfl,h⟩
  |succ=>simp at hj
 ·obtain⟨vals,rfl,hs,hv⟩:=h;exact⟨hs,hv⟩
 ·exact h.elim
theorem fD.one{E:fm}{w:bD}{c:eJ}{xs:ay AV}{vals:c_ bf}(h:fD E w c vals xs):∀u∈vals.toList,u.oneCell'=true:=by
 intro u hu;obtain⟨j,hj⟩:=bX hu;have jt:j<xs.length:=by rw[<-h.1];have:=(aT.1 hj).1;simpa using this
 obtain⟨u',h1,h2⟩:=h.2 j xs[j] (by simp[jt]);rw[cF,h1]at hj;cases hj;exact h2.one
theorem uo{α:Type}{xs ys:ay α}{j:aE}(h:j+ys.length<=xs.length):(jb xs j ys).length=xs.length:=by unfold jb;simp;omega
theorem oL{α:Type}{xs ys:ay α}{j:aE}(h:j+ys.length<=xs.length)(k:aE):(jb xs j ys)[k]? =if j<=k/\k<j+ys.length then ys[k-j]? else xs[k]? :=by
 unfold jb;by_cases h1:k<j
 ·rw[bH (by omega),ch,dr (by simp;omega),dR,bw h1]
 ·by_cases h2:k<j+ys.length
  ·rw[bw ⟨by omega,h2⟩,ch,cX (by simp;omega),dr (by simp;omega)];congr 1;simp;omega
  ·rw[bH (by omega),ch,cX (by simp;omega),cX (by simp;omega),dJ];congr 1;simp;omega
theorem Bl{α:Type}{xs ys:ay α}{j:aE}{x:α}(h:x∈jb xs j ys):x∈xs\/x∈ys:=by
 unfold jb at h;simp only[a_]at h;rcases h with (h|h)|h
 ·exact .inl (kq h)
 ·exact .inr h
 ·exact .inl (kT h)
theorem fD.put{E:fm}{w:bD}{c:eJ}{xs ys:ay AV}{vals vs:c_ bf}(h:fD E w c vals xs)(h':fD E w c vs ys){j:aE}(hl:j+ys.length<=xs.length):fD E w c (dQ vals j vs.toList) (jb xs j ys):=by
 have hb:j+vs.toList.length<=vals.size:=by rw[h.1,dm,h'.1];exact hl
 refine⟨by rw[eN hb,uo hl];exact h.1,λk a hk=> ?_⟩
 rw[oL hl]at hk;rw[f_ hb,dm,h'.1];split at hk
 ·rename_i hc;rw[bw hc,cF];exact h'.2 _ a hk
 ·rename_i hc;rw[bH hc];exact h.2 k a hk
theorem Qh(off:aE):∀(l:ay bf) (k:aE) (cells:c_ bf),off+k+l.length<=cells.size->
  ((l.zipIdx k).foldl (λr p=>r.setIfInBounds (off+p.2) p.1) cells).size=cells.size/\
  ∀q:aE,((l.zipIdx k).foldl (λr p=>r.setIfInBounds (off+p.2) p.1) cells)[q]? =if off+k<=q/\q<off+k+l.length then l[q-(off+k)]? else cells[q]? :=by
 intro l;induction l with
 |nil=>intro k cells _;refine⟨rfl,λq=> ?_⟩;rw[bH (by simp)];rfl
 |cons v rest ih=>
  intro k cells hl;simp only[cY]at hl;obtain⟨h1,h2⟩:=ih (k+1) (cells.setIfInBounds (off+k) v) (by simp;omega);simp only[List.zipIdx_cons,Ci];refine⟨by rw[h1];simp,λq=> ?_⟩
  rw[h2 q];by_cases hq:q=off+k
  ·subst hq;rw[bH (by omega),bw ⟨by omega,by simp⟩,nF,bw rfl,bw (by omega)];simp
  ·by_cases hr:off+(k+1)<=q/\q<off+(k+1)+rest.length
   ·rw[bw hr,bw ⟨by omega,by simp;omega⟩];rw[show q-(off+k)=(q-(off+(k+1)))+1 by omega,dD]
   ·rw[bH hr,bH (by simp;omega),nF,bH (λh=>hq h.symm)]
theorem Dq{off:aE}{vs cells:c_ bf}(h:off+vs.size<=cells.size):(vs.zipIdx.foldl (λr (p:bf×aE)=>r.setIfInBounds (off+p.2) p.1) cells)=dQ cells off vs.toList:=by
 rw[<-Array.foldl_toList,Array.toList_zipIdx];obtain⟨h1,h2⟩:=Qh off vs.toList 0 cells (by simpa using h);have hb:off+vs.toList.length<=cells.size:=by simpa using h
 apply Array.ext_getElem?;intro q;rw[h2 q,f_ hb];simp
theorem NP{E:fm}{w:bD}{c:eJ}{k:Ck}(h:(match k with| .o=>ak|_=>ai)=ai):ea E w c (B0 k) (im k):=by cases k<;>first|rfl|exact⟨rfl,bz _⟩|simp at h
theorem Bo(k:Ck):bE (B0 k)=[]:=by cases k<;>rfl
theorem Ib{E:fm}{w:bD}{c:eJ}{ks:ay Ck}(h:JN ks=ai):fD E w c (ks.map im).toArray (ks.map B0):=by
 refine⟨by simp,λj a hj=> ?_⟩
 rw[bF]at hj;cases hk:ks[j]? with
 |none=>rw[hk]at hj;cases hj
 |some k=>rw[hk]at hj;cases hj;exact⟨im k,by simp[hk],NP (bu.1 h k (aP hk))⟩
section
variable {P:cM} {E:fm} {σ:St} {a:Act} {w:bD} {c:eJ} {o:eV} {nm:aE} {e:rW}
theorem Nw(hE:d_ P E)(dp:eS E σ a w c){t:aE}{pl:ay (aE×aE)}{size:aE}(rP:∀f o n,E.fo t f=ah (o,n)->pl[f]? =ah (o,n)/\o+n<=size):∀(ps:ay (aE×da)) (l:ay (aE×ay AV)),(Fv E t ps).val σ=ah l->
  ∀(vals:c_ bf) (xs:ay AV),fD E w c vals xs->xs.length=size->(∀a∈xs,iV σ a)->
  ∃iQ,oP (λi=>pl[i]?) vals (ps.map λ(i,x)=>(i,a.eval x))=ah iQ/\fD E w c iQ (K_ xs l)/\(∀a∈K_ xs l,iV σ a):=by
 intro ps;induction ps with
 |nil=>intro l h vals xs hv _ hk;obtain rfl:=aD h;exact⟨vals,rfl,hv,hk⟩
 |cons p r ih=>
  obtain⟨f,x⟩:=p;intro l h vals xs hv fH hk;obtain⟨v,h1,h⟩:=Rd.bind_some h;obtain⟨M9,hkv⟩:=lL dp h1;cases v with
  |v g ys=>
   replace h:(match E.fo t f with|some (o,n)=>bif bn ys.length n then(Fv E t r).bind λl=> .ret ((o,ys)::l)else .fail|none=> .fail:Rd (ay (aE×ay AV))).val σ=ah l:=h;cases hf:E.fo t f with
   |none=>rw[hf]at h;simp at h
   |some q=>
    obtain⟨off,n⟩:=q;rw[hf]at h;obtain⟨hn,h⟩:=cy h;have hn:=aR hn;obtain⟨l',hl',h⟩:=Rd.bind_some h;obtain rfl:=aD h;obtain⟨M_,hp2⟩:=rP f off n hf;have hc:=pD.cells M9;have mz:off+ys.length<=xs.length:=by omega
    obtain⟨iQ,q1,q2,q3⟩:=ih l' hl' (dQ vals off (a.eval x).cells.toList) (jb xs off ys) (hv.put hc mz) (by rw[uo mz];exact fH)
     (λb hb=>by
      rcases Bl hb with hb|hb
      ·exact hk b hb
      ·exact λn hn=>hkv n (bG.2 ⟨b,hb,hn⟩))
    refine⟨iQ, ?_,q2,q3⟩
    simp only[eW,oP,M_];have c1:(a.eval x).cells.size=n:=by rw[hc.1,hn]
    have c2:¬(off+(a.eval x).cells.size>vals.size):=by rw[hc.1,hv.1];omega
    rw[bH (by simp[c1];rw[c1]at c2;omega)];have:=Dq (off:=off) (vs:=(a.eval x).cells) (cells:=vals) (by omega);rw[<-q1];exact kX (λz=>oP (λi=>pl[i]?) z _) this
  |jE=>simp at h
  |un=>simp at h
theorem Rz(hE:d_ P E)(b7:Ok E σ w c)(dp:eS E σ a w c)(hd:∀d,o.dst=ah d->d<a.tmps.size){t:aE}{ps:c_ (aE×da)}(ho:o.op= .build t ps)(h:(lE E nm o).val σ=ah e):gC P E σ a w c o e.ws:=by simp only[lE,ho]at h;obtain⟨ti,h1,h⟩:=Rd.bind_some h;obtain⟨hb,h⟩:=cy h;obtain⟨l,h2,h⟩:=Rd.bind_some h;have ht:=dH h1;simp only[aJ]at hb;obtain⟨yq,td⟩:=hb;obtain⟨inf,hi,fH,_,_,hz⟩:=hE.info t ti ht;obtain⟨z,Io,CJ,_⟩:=hz yq;obtain⟨d,Yg,ha,_⟩:=hE.desc t ti ht;obtain⟨fs,rfl,Jw⟩:=ha td;obtain⟨pl,M_,hp2⟩:=hE.pl t ti ht td fs Yg;obtain⟨vals,q1,q2,q3⟩:=Nw (size:=ti.ks.length) hE dp (λf o n hf=>⟨hp2 f o n hf,(Jw f o n hf).choose_spec.2.2.2.2⟩) ps.toList l h2 _ _ (Ib (w:=w) (c:=c) (E:=E) yq) (by simp) (λb hb=>by obtain⟨k,_,rfl⟩:=cO.1 hb;exact th (Bo k));refine fO b7 dp hd h (v:= .agg vals) ⟨vals,rfl,q2.1,q2.2⟩ (λn hn=>by obtain⟨x,hx,hn⟩:=bG.1 hn;exact q3 x hx n hn) ?_;unfold execOp;rw[ho];refine iJ (run_build w t _ vals ?_);simp only[Program.built,hi,Yg,Io,M_,CJ,gV,zh];exact q1
theorem RB(hE:d_ P E)(b7:Ok E σ w c)(dp:eS E σ a w c)(hd:∀d,o.dst=ah d->d<a.tmps.size){t f:aE}{x:da}(ho:o.op= .field t x f)(h:(lE E nm o).val σ=ah e):gC P E σ a w c o e.ws:=by
 simp only[lE,ho]at h;obtain⟨v,h1,h⟩:=Rd.bind_some h;obtain⟨hv,hk⟩:=lL dp h1;cases v with
 |v g xs=>
  cases g with
  |true=>
   cases hf:E.fo t f with
   |none=>rw[hf]at h;simp at h
   |some r=>
    obtain⟨j,n⟩:=r;rw[hf]at h;obtain⟨hb,h⟩:=cy h;rw[aJ]at hb;cases hx:xs.drop j with
    |nil=>rw[hx]at h;simp at h
    |cons y ys=>
     rw[hx]at h;have hj:xs[j]? =ah y:=by have:=dJ (xs:=xs) (i:=j) (j:=0);rw[hx]at this;simpa using this.symm
     obtain⟨vals,q1,q2,q3⟩:∃vals:c_ bf,a.eval x= .agg vals/\vals.size=xs.length/\∀(j:aE) (b:AV),xs[j]? =ah b->∃u:bf,vals[j]? =ah u/\ea E w c b u:=hv;obtain⟨u,hu,TJ⟩:=q3 j y hj;obtain⟨ti,ht,td⟩:=hE.fo t f j n hf;obtain⟨d,Yg,ha,_⟩:=hE.desc t ti ht;obtain⟨fs,rfl,Jw⟩:=ha td;obtain⟨fd,g1,g2,_⟩:=Jw f j n hf;have hAg:=hE.fl t f hb.1 fs fd Yg g1 w;refine fO b7 dp hd h (s:= .v ak [y]) (v:=u) TJ (λm hm=>hk m (bG.2 ⟨y,aP hj,by simpa [cw]using hm⟩)) ?_;unfold execOp;rw[ho];refine iJ ?_;simp only[Instr.field,ca,run_underlying Yg,bA,g1,q1,asAgg,cG,part,hAg,dg,if_false,g2,hu]
  |false=>simp at h
 |jE=>simp at h
 |un=>simp at h
theorem Rx(hE:d_ P E)(b7:Ok E σ w c)(dp:eS E σ a w c)(hd:∀d,o.dst=ah d->d<a.tmps.size){t:aE}(ho:o.op= .alloc t)(h:(lE E nm o).val σ=ah e):gC P E σ a w c o e.ws:=by
 simp only[lE,ho]at h;obtain⟨ti,h1,h⟩:=Rd.bind_some h;obtain⟨hb,h⟩:=cy h;obtain⟨u,h2,h⟩:=Rd.bind_some h;obtain⟨hf,jt⟩:=j4 h2;obtain rfl:=aD h;have hr:=NF (P:=P) w hE (dH h1) hb;refine Ba b7 dp hd (p:=⟨ak,w.heap.size,0,0,0,0⟩) (g:=λ_ _=>⟨ak,0,0,0,0,0⟩) hf jt (λc' hP _ _ _=> ?_) (λc' hP _ b hb=> ?_) (λxs hx b hb=> ?_) (λc' hP _=> ?_) (λn hn=> .inl (by simpa [cw,bE]using hn)) (λb hb=>heap_alloc_old w _ b hb) (by simp) rfl rfl rfl (v:= .pointer (ah (ad w.heap.size 0))) (w':=w.alloc (.cells (ti.ks.map im).toArray t)) ?_
 ·obtain⟨z1,z2⟩:=Ib (E:=E) (w:=w.alloc (.cells (ti.ks.map im).toArray t)) (c:=c') hb;exact⟨_,by rw[hP];exact mY.alloc w _ t,z1,z2⟩
 ·have:b=(c'.P nm).blk:=hb;rw[this,hP];exact cu _
 ·cases hx;obtain⟨k,_,rfl⟩:=cO.1 hb;exact th (Bo k)
 ·show _=_;rw[hP]
 ·unfold execOp;rw[ho];exact iJ hr
theorem ac_(b7:Ok E σ w c)(dp:eS E σ a w c)(hd:∀d,o.dst=ah d->d<a.tmps.size){t:aE}{x:da}(ho:o.op= .box t x)(h:(lE E nm o).val σ=ah e):gC P E σ a w c o e.ws:=by
 simp only[lE,ho]at h;obtain⟨v,h1,h⟩:=Rd.bind_some h;obtain⟨hv,hk⟩:=lL dp h1;cases v with
 |v g xs=>
  obtain⟨u,h2,h⟩:=Rd.bind_some h;obtain⟨hf,jt⟩:=j4 h2;obtain rfl:=aD h;have hr:=R6 (P:=P) w t (a.eval x);have kx:∀b∈xs,iV σ b:=λb hb n hn=>hk n (bG.2 ⟨b,hb,hn⟩);have nM:=pD.cells hv;refine Ba b7 dp hd (p:=⟨ak,w.heap.size,0,0,0,0⟩) (g:=λ_ _=>⟨ak,0,0,0,0,0⟩) hf jt (λc' hP _ hK hA=> ?_) (λc' hP _ b hb=> ?_) (λys hx b hb=> ?_) (λc' hP _=> ?_) (λn hn=> .inl (by simpa [cw,bE]using hn)) (λb hb=>heap_alloc_old w _ b hb) (by simp) rfl rfl rfl (v:= .pointer (ah (ad w.heap.size 0))) (w':=w.alloc (.cells (a.eval x).cells t)) ?_
  ·refine⟨_,by rw[hP];exact mY.alloc w _ t,nM.1,λj y hj=> ?_⟩
   obtain⟨u,hu,hy⟩:=nM.2 j y hj;exact⟨u,hu,hy.frame (λb hb=>heap_alloc_old w _ b (b7.lt b hb)) hK (λn hn=>hA n (.inl (kx y (aP hj) n hn)))⟩
  ·have:b=(c'.P nm).blk:=hb;rw[this,hP];exact cu _
  ·cases hx;exact kx b hb
  ·show _=_;rw[hP]
  ·unfold execOp;rw[ho];exact iJ hr
 |jE=>simp at h
 |un=>simp at h
end
end Go.FG

namespace Go.FG
def JL(E:fm)(ks:ay Ck)(_i j:aE):Pl:=
 ⟨ai,0,0,0,0,match ks[j]? with|some (.l e)=>(match E.ty e with|some t=>t.ks.length|none=>0)|_=>0⟩
theorem u5{p:Pl}{G:aE->aE->Pl}{xs:aU}(h:∀i j,(G i j).nil=ai):D3 p G xs:=
 ⟨λi j _ hn=>(by rw[h]at hn;cases hn),λi j i' j' _ _ hn=>(by rw[h]at hn;cases hn)⟩
theorem Mp{E:fm}{w:bD}{ks:ay Ck}(hf:flat E ks=ai)(hn:JN ks=ai){i j:aE}{k:Ck}(hk:ks[j]? =ah k):XC E w (JL E ks) i j (im k) (yM k):=by
 have h1:=bu.1 hf k (aP hk);have h2:=bu.1 hn k (aP hk);cases k with
 |l e=>
  replace h1:(match E.ty e with|some ti=>plain ti.ks|none=>ak)=true:=h1;cases ht:E.ty e with
  |none=>rw[ht]at h1;cases h1
  |some t=>
   rw[ht]at h1;refine⟨rfl,t,ht,h1, ?_,λy hy=>(by cases hy),⟨rfl,λ_=>⟨rfl,rfl⟩,λh=>by cases h⟩⟩
   show(match ks[j]? with|some (.l e)=>(match E.ty e with|some t=>t.ks.length|none=>0)|_=>0)=_;rw[hk];simp only[ht]
 |o=>cases h2
 |s=>exact⟨rfl,bz _⟩
 |_=>exact⟨rfl,trivial⟩
theorem Kn{E:fm}{w:bD}{K:aE->Prop}{k:Ck}(h2:(match k with| .o=>ak|_=>ai)=ai):cT E w K (im k) (yM k):=by
 cases k with
 |o=>cases h2
 |i k=>exact .i _ _
 |b=>exact .b _
 |s=>exact .s _ (bz _)
 |l e=>exact .nl _ _ _
theorem Xw{k:Ck}(h2:(match k with| .o=>ak|_=>ai)=ai):(yM k).kd=k:=by cases k<;>first|rfl|cases h2
theorem wF{ks:ay Ck}(hn:JN ks=ai)(n:aE):∀y∈aN ks n,y.map CV.kd=ks:=by
 intro y hy;rw[(List.mem_replicate.1 hy).2,lH];have:∀k∈ks,(CV.kd∘yM) k=k:=λk hk=>Xw (bu.1 hn k hk);conv=>rhs;rw[<-List.map_id ks]
 exact NS this
theorem tF{ks:ay Ck}{n i j:aE}{y:ay CV}{x:CV}(hi:(aN ks n)[i]? =ah y)(hj:y[j]? =ah x):i<n/\∃k,ks[j]? =ah k/\x=yM k:=by
 unfold aN at hi;have jt:=(aT.1 hi).1;rw[List.length_replicate]at jt;rw[List.getElem?_replicate,bw jt]at hi;cases hi;rw[bF]at hj;cases hk:ks[j]? with
 |none=>rw[hk]at hj;cases hj
 |some k=>rw[hk]at hj;cases hj;exact⟨jt,k,rfl,rfl⟩
theorem lk{ks:ay Ck}{n i j:aE}{k:Ck}(hi:i<n)(hk:ks[j]? =ah k):(madeCells (ks.map im).toArray (n*ks.length))[i*ks.length+j]? =ah (im k):=by
 have hj:=(aT.1 hk).1;have jt:i*ks.length+j<n*ks.length:=by have:(i+1)*ks.length<=n*ks.length:=bY _ hi;rw[c7]at this;omega
 have hm:(i*ks.length+j)%ks.length=j:=by rw[C5,Nat.mul_add_mod];exact Nat.mod_eq_of_lt hj
 unfold madeCells;rw[Ms,Array.getElem?_range,bw jt,h_];congr 1;simp only[Tv,bN,hm];rw[getElem!_def,gV,bF,hk];rfl
theorem yt{P:cM}{E:fm}{σ:St}(hE:d_ P E){t:aE}{k:mG}(h:(pf E t).val σ=ah (.i k)):P.underlying t=ah (.int k):=by obtain⟨ti,h1,h2,h3⟩:=qO h;obtain⟨d,hd,_,hn⟩:=hE.desc t ti h1;rcases hn h2 with ⟨k,h,rfl⟩|⟨h,_⟩|⟨h,_⟩|⟨e',h,_⟩|⟨h,_⟩<;>rw[h3]at h<;>simp_all
theorem KZ{P:cM}{E:fm}(hE:d_ P E){e:aE}{te:TI}(ht:E.ty e=ah te)(h:(u8s te.ks&& !te.agg)=ai):te.ks=[.i .u8]/\P.underlying e=ah (.int .u8):=by
 simp only[aJ,dz]at h;have hk:te.ks=[.i .u8]:=by
  have:=h.1;unfold u8s at this;split at this
  ·assumption
  ·cases this
 obtain⟨d,hd,_,hn⟩:=hE.desc e te ht;refine⟨hk, ?_⟩
 rcases hn h.2 with ⟨k,h,rfl⟩|⟨h,_⟩|⟨h,_⟩|⟨e',h,_⟩|⟨h,_⟩<;>rw[hk]at h<;>simp_all
section
variable {P:cM} {E:fm} {σ:St} {a:Act} {w:bD} {c:eJ} {o:eV} {nm:aE} {e:rW}
theorem NG(hE:d_ P E){src dst el:aE}{te:TI}(hs:P.underlying src=ah (.slice el))(hd:P.underlying dst=ah .string)(he:P.underlying el=ah (.int .u8))(hk:te.ks=[.i .u8]){v:bf}{xs:aU}
  (h:nH w v xs te.ks.length (λ_ _ u x=>Sc u x)) (lj:∀y∈xs,y.map CV.kd=te.ks):(convert src dst v).run P w= .ok (.string (bytesOf xs)) w:=by
 obtain⟨A,cp,rfl,h2⟩:=h;by_cases hx:xs=[]
 ·subst hx;rw[jo];have e0:bytesOf []=F2:=rfl;rw[e0];cases A with
  |none=>exact run_convert_bytes_nil w src el hs he 0 cp dst hd
  |some ad'=>rw[run_convert_bytes_string w src dst el _ 0 cp hs he hd];exact run_bytesToString w ad' 0 cp [] rfl
 ·obtain⟨b,oo,rfl,h3⟩:=h2 hx;have:=run_convert_bytes_arg w src el hs he b oo xs.length cp (xs.map λy=>bZ (y.getD 0 (.b ak))) (by simp) (λi hi=>by
   have hy:=lj xs[i] (bC hi);rw[hk]at hy;cases hq:xs[i]with
   |nil=>rw[hq]at hy;cases hy
   |cons x r=>
    rw[hq]at hy;simp only[eW,X0,List.map_eq_nil_iff]at hy;obtain⟨hx1,rfl⟩:=hy;obtain⟨u,hu,hr⟩:=h3 i xs[i] 0 x (by simp[hi]) (by rw[hq];rfl);rw[hk]at hu;simp only[cY,jo,bT,Nat.mul_one,wY]at hu;rw[hu,hr.1];cases x with
    |i k n=>cases hx1;simp[NK,jH,hi,hq,bZ]
    |_=>cases hx1) dst hd
  rw[this];unfold strOfNums bytesOf;rw[lH];rfl
theorem gX(xs:aU):(bytesOf xs).size=xs.length:=by unfold bytesOf;simp[gj]
theorem lD(s:aq):(qc s).length=s.size:=by unfold qc;simp
theorem FF{s:aq}{i j:aE}{y:ay CV}{x:CV}(hi:(qc s)[i]? =ah y)(hj:y[j]? =ah x):j=0/\∃b,s.data[i]? =ah b/\x= .i .u8 (b.toNat:az):=by
 unfold qc at hi;rw[bF,cF]at hi;cases hb:s.data[i]? with
 |none=>rw[hb]at hi;cases hi
 |some b=>
  rw[hb]at hi;cases hi;cases j with
  |zero=>cases hj;exact⟨rfl,b,rfl,rfl⟩
  |succ j=>simp at hj
theorem HK(s:aq):∀y∈qc s,y.map CV.kd=[.i .u8]:=by intro y hy;obtain⟨b,_,rfl⟩:=cO.1 hy;rfl
theorem JR(hE:d_ P E)(b7:Ok E σ w c)(dp:eS E σ a w c)(hd:∀d,o.dst=ah d->d<a.tmps.size){src dst:aE}{x:da}(ho:o.op= .convert src dst x)(h:(lE E nm o).val σ=ah e)(hc:e.cond=ai):gC P E σ a w c o e.ws:=by
 simp only[lE,ho]at h;obtain⟨ks,h1,h⟩:=Rd.bind_some h;obtain⟨kd,h2,h⟩:=Rd.bind_some h;obtain⟨v,h3,h⟩:=Rd.bind_some h;obtain⟨ev,kv⟩:=iM dp h3;have exec:∀{u r:bf} {w':bD},a.eval x=u->(convert src dst u).run P w= .ok r w'->(execOp a.eval o).run P w= .ok (.value r) w':=by intro u r w' hu hr;unfold execOp;rw[ho];exact iJ (by rw[hu];exact hr)
 cases kd with
 |i k=>
  cases ks with
  |i k0=>
   cases v with
   |i k1 n=>refine fO b7 dp hd h (v:= .int k (k.wrap n)) rfl (λn hn=>by simp[cw,bE]at hn) (exec ev ?_);simp[convert,run_underlying (yt hE h1),run_underlying (yt hE h2),Conv.intToInt]
   |_=>simp at h
  |_=>simp at h
 |s=>
  have Bc:=kE hE h2;cases ks with
  |s=>
   cases v with
   |s s=>refine fO b7 dp hd h (v:= .string s) ⟨rfl,ev.2⟩ (λn hn=>by simp[cw,bE]at hn) (exec ev.1 ?_);simp[convert,run_underlying (kE hE h1),run_underlying Bc]
   |_=>simp at h
  |l el=>
   have CH:=j7 hE h1;have gen:(∀e,v=e->((lS E e).bind λ(e,xs)=>(q_ E e).bind λte=>bif bn e el&&u8s te.ks&& !te.agg then Kg o (decide (xs.length<=4611686018427387904)) (.s (bytesOf xs))else .fail).val σ=ah ‹rW›)->gC P E σ a w c o (‹rW›).ws:=by
    intro h;obtain⟨⟨e1,xs⟩,q1,h⟩:=Rd.bind_some (h v rfl);obtain⟨te,q2,h⟩:=Rd.bind_some h;have q2:=dH q2;obtain⟨q3,h9⟩:=cy h;rw[mZ,aJ]at q3;have:=aR q3.1;subst this;obtain⟨q4,q5⟩:=KZ hE q2 q3.2;have hp:plain te.ks=true:=by rw[q4];rfl
    obtain⟨r1,r2,r3⟩:=zf b7 ev q1 q2 hp;exact DO b7 dp hd h9 hc (v:= .string (bytesOf xs)) (λhb=>⟨rfl,by unfold Ge;rw[gX];exact cg hb⟩) (th rfl) (λ_=>exec rfl (NG hE CH Bc q5 q4 r1 r2))
   cases v with
   |nl=>obtain⟨te,q1,h⟩:=Rd.bind_some h;obtain⟨q3,h⟩:=cy h;obtain⟨q4,q5⟩:=KZ hE (dH q1) q3;exact fO b7 dp hd h (v:= .string F2) ⟨rfl,bz _⟩ (λn hn=>by simp[cw,bE]at hn) (exec ev (run_convert_bytes_nil w src el CH q5 0 0 dst Bc))
   |_=>exact gen (λ_ hv=>by cases hv;exact h)
  |_=>simp at h
 |_=>simp at h
theorem Ft(hE:d_ P E)(b7:Ok E σ w c)(dp:eS E σ a w c)(hd:∀d,o.dst=ah d->d<a.tmps.size){t:aE}{x y:da}(ho:o.op= .makeSlice t x y)(h:(lE E nm o).val σ=ah e)(hc:e.cond=ai):gC P E σ a w c o e.ws:=by
 simp only[lE,ho]at h;obtain⟨⟨k1,n⟩,h1,h⟩:=Rd.bind_some h;obtain⟨⟨k2,m⟩,h2,h⟩:=Rd.bind_some h;obtain⟨ti,h3,h⟩:=Rd.bind_some h;have ex:=ph dp h1;have ey:=ph dp h2;have h3:=dH h3;split at h
 ·rename_i el td zE;obtain⟨te,h4,h⟩:=Rd.bind_some h;have h4:=dH h4;obtain⟨h5,h⟩:=cy h;obtain⟨u,h6,h⟩:=Rd.bind_some h;obtain⟨hf,jt⟩:=j4 h6;obtain rfl:=aD h;generalize (bif plain te.ks then nm else nm+999)=nm at hf jt hc⊢;simp only[aJ,bc,cB]at hc h5;obtain⟨⟨c0,rfl⟩,c1,c2⟩:=hc;obtain⟨yq,N1⟩:=h5;have hu:=oA hE h3 td zE;obtain⟨inf,hi,fH,hby,kC,hz⟩:=hE.info el te h4;obtain⟨z,Io,CJ,_⟩:=hz yq;have hr:=run_make (P:=P) w t el inf z hu hi Io k1 k2 n n c0 (Gm _) (by
   have e1:((n.toNat*te.bytes:aE):az)<=140737488355328:=(by generalize n.toNat*te.bytes=q at c1⊢;omega)
   rw[hby,Int.mul_comm];rw[Ud,Int.toNat_of_nonneg c0]at e1;omega) (by omega)
  rw[CJ,fH]at hr;refine Ba b7 dp hd (p:=⟨ak,w.heap.size,0,n.toNat,n.toNat,te.ks.length⟩) (g:=JL E te.ks) hf jt (λc' hP hG _ _=> ?_) (λc' hP hG b hb=> ?_) (λxs hx b hb=>by cases hx) (λc' hP _=> ?_) (λn hn=> .inl (by simpa [cw,bE]using hn)) (λb hb=>heap_alloc_old w _ b hb) (by simp) rfl rfl rfl (v:= .slice (ah ⟨w.heap.size,0,aj⟩) n.toNat n.toNat) (w':=w.alloc (.cells (madeCells (te.ks.map im).toArray (n.toNat*te.ks.length)) el)) ?_
  ·refine⟨⟨te,h4,by rw[hP],wF yq _⟩, ?_,λ_=>u5 (λi j=>(by rw[hG];try rfl))⟩
   rw[hP,hG];refine⟨by simp[aN],λhn=>(by cases hn),λ_=>⟨_,mY.alloc w _ el,cu _,(by show n.toNat<=2^63-1;omega),by rw[size_madeCells];simp,λi y j x hi hj=> ?_⟩⟩
   obtain⟨g9,k,hk,rfl⟩:=tF hi hj;refine⟨im k, ?_,by rw[bw rfl];exact Mp N1 yq hk⟩
   rw[bT];exact lk g9 hk
  ·rcases hb with ⟨_,rfl⟩|⟨_,i,j,_,hn,_⟩
   ·rw[hP];exact cu _
   ·rw[hG]at hn;cases hn
  ·show _=kY _;rw[hP];rfl
  ·unfold execOp;rw[ho];exact iJ (by rw[ex,ey];exact hr)
 ·simp at h
end
end Go.FG

namespace Go.FG
theorem iX{xs:aU}{i j:aE}{cs:ay CV}:(dV xs i j cs).length=xs.length:=by unfold dV;simp
theorem wv{xs:aU}{i j:aE}{cs y:ay CV}(hy:xs[i]? =ah y)(i':aE):(dV xs i j cs)[i']? =if i'=i then ah (jb y j cs)else xs[i']? :=by
 have jt:=(aT.1 hy).1;have hd:xs.getD i []=y:=by rw[cL,hy];rfl
 unfold dV;rw[NR,hd];by_cases h:i'=i
 ·subst h;simp[jt]
 ·rw[bH h,bH (λe=>h e.symm)]
theorem mY.uniq{w:bD}{b:aE}{v1 v2:c_ bf}(h1:mY w b v1)(h2:mY w b v2):v1=v2:=by obtain⟨t,fr,h1,_⟩:=h1;obtain⟨t',fr',h2,_⟩:=h2;rw[h1]at h2;cases h2;rfl
theorem iP.pos{w:bD}{p:Pl}{xs:aU}{R:aE->aE->bf->CV->Prop}(h:iP w p xs R){i:aE}(hi:i<p.n):p.nil=ak/\∃vals,mY w p.blk vals:=by
 have iR:p.nil=false:=by
  cases hn:p.nil with
  |false=>rfl
  |true=>have:=(h.nil hn).1;subst this;have:=h.n;simp at this;omega
 obtain⟨vals,hb,_⟩:=h.mem iR;exact⟨iR,vals,hb⟩
theorem iP.ahX{w:bD}{p:Pl}{xs:aU}{R R':aE->aE->bf->CV->Prop}(h:iP w p xs R){vals:c_ bf}(hbv:mY w p.blk vals)(hs:∀y∈xs,y.length=p.sz){i j:aE}{cs:ay CV}{vs:ay bf}(hi:i<p.n)(hj:j+cs.length<=p.sz)(hl:vs.length=cs.length)
  (tV:∀(q:aE) (x:CV),cs[q]? =ah x->∃u:bf,vs[q]? =ah u/\R' i (j+q) u x)
  (hold:∀(i1:aE) (y:ay CV) (j1:aE) (x:CV) (u:bf),xs[i1]? =ah y->y[j1]? =ah x->(i1≠i\/¬(j<=j1/\j1<j+cs.length))->R i1 j1 u x->R' i1 j1 u x):
  p.off+i*p.sz+j+vs.length<=vals.size/\iP (w.setRow p.blk (dQ vals (p.off+i*p.sz+j) vs)) p (dV xs i j cs) R':=by
 have iR:p.nil=false:=by
  cases hn:p.nil with
  |false=>rfl
  |true=>have:=(h.nil hn).1;subst this;have:=h.n;simp at this;omega
 obtain⟨iQ,hb,Qv,UX,mz,hc⟩:=h.mem iR;obtain rfl:=hbv.uniq hb;have kZ:i<xs.length:=by rw[<-h.n];exact hi
 have hy:xs[i]? =ah xs[i]:=by simp[kZ]
 have Fc:=hs xs[i] (bC kZ);have h1:(i+1)*p.sz<=p.cap*p.sz:=bY _ (by omega);rw[c7]at h1;have uh:p.off+i*p.sz+j+vs.length<=vals.size:=by omega
 refine⟨uh,⟨by rw[iX];exact h.n,λhn=>(by rw[iR]at hn;cases hn),λ_=> ?_⟩⟩
 refine⟨_,hb.setRow (eN uh),Qv,UX,by rw[eN uh];exact mz,λi' y j' x jL M3=> ?_⟩
 rw[wv hy]at jL;rw[f_ uh];by_cases Hc:i'=i
 ·subst Hc;rw[bw rfl]at jL;cases jL;rw[oL (by omega)]at M3;by_cases hq:j<=j'/\j'<j+cs.length
  ·rw[bw hq]at M3;rw[bw (by omega)];obtain⟨u,hu,hr⟩:=tV (j'-j) x M3;refine⟨u, ?_, ?_⟩
   ·rw[<-hu];congr 1;omega
   ·rwa[show j+(j'-j)=j' by omega]at hr
  ·rw[bH hq]at M3;obtain⟨u,hu,hr⟩:=hc _ _ _ _ hy M3;exact⟨u,by rw[bH (by omega)];exact hu,hold _ _ _ _ _ hy M3 (.inr hq) hr⟩
 ·rw[bH Hc]at jL;obtain⟨u,hu,hr⟩:=hc _ _ _ _ jL M3;refine⟨u, ?_,hold _ _ _ _ _ jL M3 (.inl Hc) hr⟩
  have TN:j'<p.sz:=by rw[<-hs y (aP jL)];exact(aT.1 M3).1
  rw[bH ?_];exact hu;rcases NU Hc with jt|hgt
  ·have:(i'+1)*p.sz<=i*p.sz:=bY _ jt;rw[c7]at this;omega
  ·have:(i+1)*p.sz<=i'*p.sz:=bY _ hgt;rw[c7]at this;omega
theorem iP.put{w:bD}{p:Pl}{xs:aU}{R R':aE->aE->bf->CV->Prop}(h:iP w p xs R){vals:c_ bf}(hbv:mY w p.blk vals)(hs:∀y∈xs,y.length=p.sz){i j:aE}{cs:ay CV}{vs:ay bf}(hi:i<p.n)(hj:j+cs.length<=p.sz)(hl:vs.length=cs.length)
  (tV:∀(q:aE) (x:CV),cs[q]? =ah x->∃u:bf,vs[q]? =ah u/\R' i (j+q) u x)
  (hold:∀(i:aE) (y:ay CV) (j:aE) (x:CV) (u:bf),xs[i]? =ah y->y[j]? =ah x->R i j u x->R' i j u x):
  p.off+i*p.sz+j+vs.length<=vals.size/\iP (w.setRow p.blk (dQ vals (p.off+i*p.sz+j) vs)) p (dV xs i j cs) R':=
 h.ahX hbv hs hi hj hl tV (λi1 y j1 x u h1 h2 _ hr=>hold i1 y j1 x u h1 h2 hr)
theorem kD{xs:aU}{ks:ay Ck}(h:∀y∈xs,y.map CV.kd=ks)(i j:aE):fP xs i j↔i<xs.length/\∃e,ks[j]? =ah (.l e):=by
 constructor
 ·rintro ⟨y,x,hy,hx,hl⟩;refine⟨(aT.1 hy).1, ?_⟩
  cases x with
  |l e ys=>exact⟨e,by rw[<-h y (aP hy),bF,hx];rfl⟩
  |i=>simp[tf]at hl
  |b=>simp[tf]at hl
  |s=>simp[tf]at hl
 ·rintro ⟨hi,e,hk⟩;have hy:xs[i]? =ah xs[i]:=by simp[hi]
  have h1:=h xs[i] (bC hi);rw[<-h1,bF]at hk;cases hx:xs[i][j]? with
  |none=>rw[hx]at hk;cases hk
  |some x=>
   rw[hx]at hk;cases x with
   |l e2 ys=>exact⟨_,_,hy,hx,rfl⟩
   |i=>cases hk
   |b=>cases hk
   |s=>cases hk
theorem Nc{y cs:ay CV}{ks:ay Ck}{j:aE}(hy:y.map CV.kd=ks)(hc:cs.map CV.kd=(ks.drop j).take cs.length)(hj:j+cs.length<=ks.length):(jb y j cs).map CV.kd=ks:=by
 have hl:y.length=ks.length:=by rw[<-hy];simp
 apply Ts;intro q;rw[bF,oL (by omega)];split
 ·rename_i h;have:(cs.map CV.kd)[q-j]? =((ks.drop j).take cs.length)[q-j]? :=by rw[hc]
  rw[bF]at this;rw[this,dR,bw (by omega),dJ];congr 1;omega
 ·rw[<-hy,bF]
theorem tC{xs:aU}{ks:ay Ck}{i j:aE}{cs:ay CV}(h:∀y∈xs,y.map CV.kd=ks)(hc:cs.map CV.kd=(ks.drop j).take cs.length)(hj:j+cs.length<=ks.length)(hi:i<xs.length):∀y∈dV xs i j cs,y.map CV.kd=ks:=by
 intro y hy;obtain⟨q,hq⟩:=bX hy;rw[wv (y:=xs[i]) (by simp[hi])]at hq;split at hq
 ·cases hq;exact Nc (h _ (bC hi)) hc hj
 ·exact h y (aP hq)
theorem nk{E:fm}{w:bD}{K:aE->Prop}{p:Pl}{xs:aU}{el:aE}{te:TI}(ht:E.ty el=ah te)(hs:p.sz=te.ks.length)(lj:∀y∈xs,y.map CV.kd=te.ks)
  (h:iP w p xs (λ_ _ u x=>cT E w K u x)) (hK:p.nil=ak->K p.blk):cT E w K (kY p) (.l el xs):=by
 cases hq:p.nil with
 |true=>rw[mg hq,(h.nil hq).1];exact .nl _ _ _
 |false=>
  rw[eG hq,h.n];obtain⟨vals,hb,Qv,hmx,_,hc⟩:=h.mem hq;have G_:=λi y j x (h1:xs[i]? =ah y) (h2:y[j]? =ah x)=>hc i y j x h1 h2;refine .l el xs p.blk p.off p.cap te (λi j=>(vals[p.off+i*p.sz+j]?).getD undef) ht (by rw[<-h.n];exact Qv) hmx (hK hq) lj (λi j y x h1 h2=> ?_) (λi j y x h1 h2=> ?_)
  ·obtain⟨u,hu,_⟩:=G_ i y j x h1 h2;rw[hb.cell,<-hs,hu];rfl
  ·obtain⟨u,hu,hr⟩:=G_ i y j x h1 h2;simp only[hu,wZ];exact hr
theorem sW{E:fm}{w:bD}{K:aE->Prop}{G:aE->aE->Pl}{i j:aE}{u:bf}{x:CV}(h:XC E w G i j u x)(hK:tf x=ai->(G i j).nil=ak->K (G i j).blk):cT E w K u x:=by
 cases x with
 |l e ys=>obtain⟨rfl,t,ht,hp,hs,lj,fG⟩:=h;exact nk ht hs lj (fG.frame (λ_=>rfl) (λi j y x u hi hj hr=>jx (gJ hp (lj y (aP hi)) hj) hr)) (hK rfl)
 |i=>exact jx rfl h
 |b=>exact jx rfl h
 |s=>exact jx rfl h
section
variable {P:cM} {E:fm} {σ:St} {a:Act} {w:bD} {c:eJ} {o:eV} {nm:aE} {e:rW}
theorem xZ{ex:aW}{k:Ck}{x:AV}{cv:CV}{ws:ay (aE×eA)}{u:bf}(hp:plain [k]=ai)(h:(GW ex k x).val σ=ah (cv,ws))(hx:ea E w c x u):cv.kd=k/\Sc u cv/\tf cv=ak/\ws=[]:=by
 cases k with
 |i k=>
  cases x with
  |i k' n=>
   replace h:(if k=k' then Rd.ret (CV.i k n,[])else .fail:Rd (CV×ay (aE×eA))).val σ=ah (cv,ws):=h;split at h
   ·rename_i hk;subst hk;obtain⟨rfl,rfl⟩:=bS (aD h);exact⟨rfl,⟨hx,trivial⟩,rfl,rfl⟩
   ·simp at h
  |_=>simp[GW]at h
 |b=>
  cases x with
  |b n=>obtain⟨rfl,rfl⟩:=bS (aD h);exact⟨rfl,⟨hx,trivial⟩,rfl,rfl⟩
  |_=>simp[GW]at h
 |s=>
  cases x with
  |s n=>obtain⟨rfl,rfl⟩:=bS (aD h);exact⟨rfl,hx,rfl,rfl⟩
  |_=>simp[GW]at h
 |l=>simp[plain]at hp
 |o=>simp[plain]at hp
theorem AZ{ex:aW}:∀{ks:ay Ck} {xs:ay AV} {cs:ay CV} {ws:ay (aE×eA)} (hp:plain ks=ai) (h:(x_ ex ks xs).val σ=ah (cs,ws)),cs.map CV.kd=ks/\cs.length=xs.length/\ws=[]/\
  ∀(vals:c_ bf),fD E w c vals xs->∀(q:aE) (x:CV),cs[q]? =ah x->vals[q]? =ah (NK x)/\tf x=ak/\okC x:=by
 intro ks;induction ks with
 |nil=>
  intro xs cs ws hp h;cases xs with
  |nil=>obtain⟨rfl,rfl⟩:=bS (aD h);exact⟨rfl,rfl,rfl,λ_ _ q x hq=>by simp at hq⟩
  |cons=>simp[x_]at h
 |cons k ks ih=>
  intro xs cs ws hp h;cases xs with
  |nil=>simp[x_]at h
  |cons x xs=>
   obtain⟨⟨cv,w1⟩,h1,h⟩:=Rd.bind_some h;obtain⟨⟨cr,w2⟩,h2,h⟩:=Rd.bind_some h;obtain⟨rfl,rfl⟩:=bS (aD h);simp only[plain,sb,aJ]at hp;have M_:plain [k]=true:=by simp[plain,hp.1]
   have hp2:plain ks=true:=hp.2;obtain⟨i1,i2,i3,i4⟩:=ih hp2 h2;have e1:=λu (hu:ea E w c x u)=>xZ M_ h1 hu;have Y_:cv.kd=k/\w1=[]:=by
    cases k<;>cases x<;>simp[GW,plain]at h1 M_<;>first
     |(obtain⟨rfl,rfl⟩:=h1;exact⟨rfl,rfl⟩)
     |(split at h1<;>simp at h1;rename_i hk;subst hk;obtain⟨rfl,rfl⟩:=h1;exact⟨rfl,rfl⟩)
   refine⟨by simp[Y_.1,i1],by simp[i2],by rw[Y_.2,i3];rfl,λvals hv q y hq=> ?_⟩
   cases q with
   |zero=>cases hq;obtain⟨u,hu,ha⟩:=hv.2 0 x rfl;obtain⟨_,⟨rfl,ho⟩,hl,_⟩:=e1 u ha;exact⟨hu,hl,ho⟩
   |succ q=>
    have Lp:fD E w c (vals.extract 1 vals.size) xs:=by
     refine⟨by simp;have:=hv.1;simp at this;omega,λj b hj=> ?_⟩
     obtain⟨u,hu,hb⟩:=hv.2 (j+1) b hj;refine⟨u, ?_,hb⟩
     have:=(dL.1 hu).1;rw[dS,bw (by omega),iN];exact hu
    obtain⟨r1,r2⟩:=i4 _ Lp q y hq;refine⟨?_,r2⟩
    rw[dS]at r1;split at r1
    ·rw[iN];exact r1
    ·cases r1
theorem Xo{s:Sem Unit}{w':bD}(hr:s.run P w= .ok () w'):(do s;pure Next.skip:Sem Next).run P w= .ok .skip w':=by simp only[ca,hr,bA,cG]
theorem DE:∀{ys:ay AV} {q0 q n2:aE},yz q0 ys=ah (q,n2)->q0<=q/\ys[q-q0]? =ah (.own n2)/\∀(k m:aE),ys[k]? =ah (.own m)->k=q-q0:=by
 have WE:∀{ys:ay AV},HB ys=ai->∀(k m:aE),ys[k]? ≠ah (.own m):=by
  intro ys;induction ys with
  |nil=>intro h k m h;simp at h
  |cons y ys ih=>
   intro h k m hk;cases y with
   |own n=>cases h
   |_=>
    cases k with
    |zero=>cases hk
    |succ k=>exact ih (by simpa [HB]using h) k m hk
 intro ys;induction ys with
 |nil=>intro q0 q n2 h;cases h
 |cons y ys ih=>
  intro q0 q n2 h;have step:yz (q0+1) ys=ah (q,n2)->(∀m,y≠ .own m)->q0<=q/\(y::ys)[q-q0]? =ah (.own n2)/\∀(k m:aE),(y::ys)[k]? =ah (.own m)->k=q-q0:=by
   intro h hy;obtain⟨h1,h2,h3⟩:=ih h;have e:q-q0=(q-(q0+1))+1:=by omega
   refine⟨by omega,by rw[e,dD];exact h2,λk m hk=> ?_⟩
   cases k with
   |zero=>cases hk;exact cE rfl (hy m)
   |succ k=>have:=h3 k m hk;omega
  cases y with
  |own n=>
   unfold yz at h;cases h1:HB ys with
   |false=>rw[h1]at h;cases h
   |true=>
    rw[h1]at h;cases h;refine⟨cu _,by rw[Nat.sub_self];rfl,λk m hk=> ?_⟩
    cases k with
    |zero=>omega
    |succ k=>exact cE hk (WE h1 k m)
  |_=>exact step (by simpa [yz]using h) (λm h=>by cases h)
theorem UD{E:fm}{w:bD}{c:eJ}{e2 n2:aE}{zs:aU}:∀{ks:ay Ck} {ys:ay AV} {cs:ay CV},CA e2 n2 zs ks ys=ah cs->cs.map CV.kd=ks/\cs.length=ys.length/\
  ∀(q:aE) (x:CV),cs[q]? =ah x->∃y,ys[q]? =ah y/\((tf x=ak/\∀u,ea E w c y u->Sc u x)\/(x= .l e2 zs/\y= .own n2)):=by
 intro ks;induction ks with
 |nil=>
  intro ys cs h;cases ys with
  |nil=>cases h;exact⟨rfl,rfl,λq x h=>by simp at h⟩
  |cons=>cases h
 |cons k ks ih=>
  intro ys cs h
  have go:∀{y:AV} {r:ay AV} {x:CV},ys=y::r->(CA e2 n2 zs ks r).map (x:: ·)=ah cs->x.kd=k->((tf x=ak/\∀u,ea E w c y u->Sc u x)\/(x= .l e2 zs/\y= .own n2))->
    cs.map CV.kd=k::ks/\cs.length=ys.length/\∀(q:aE) (x:CV),cs[q]? =ah x->∃y,ys[q]? =ah y/\((tf x=ak/\∀u,ea E w c y u->Sc u x)\/(x= .l e2 zs/\y= .own n2)):=by
   intro y r x hy hm hk hx
   subst hy
   cases hr:CA e2 n2 zs ks r with
   |none=>rw[hr]at hm;cases hm
   |some cr=>
    rw[hr]at hm;cases hm;obtain⟨i1,i2,i3⟩:=ih hr;refine⟨by simp[hk,i1],by simp[i2],λq z hq=> ?_⟩
    cases q with
    |zero=>cases hq;exact⟨y,rfl,hx⟩
    |succ q=>exact i3 q z hq
  cases ys with
  |nil=>cases k<;>cases h
  |cons y r=>
   cases k with
   |i k=>
    cases y with
    |i k' n=>
     unfold CA at h;split at h
     ·rename_i hk;subst hk;exact go rfl h rfl (.inl ⟨rfl,λu hu=>⟨hu,trivial⟩⟩)
     ·cases h
    |_=>cases h
   |b=>
    cases y with
    |b n=>exact go rfl h rfl (.inl ⟨rfl,λu hu=>⟨hu,trivial⟩⟩)
    |_=>cases h
   |s=>
    cases y with
    |s n=>exact go rfl h rfl (.inl ⟨rfl,λu hu=>hu⟩)
    |_=>cases h
   |l e=>
    cases y with
    |own n=>
     unfold CA at h;cases hb:(bn e e2&&bn n n2)with
     |false=>rw[hb]at h;cases h
     |true=>rw[hb,au]at h;simp only[aJ]at hb;have:=aR hb.1;subst this;have:=aR hb.2;subst this;exact go rfl h rfl (.inr ⟨rfl,rfl⟩)
    |_=>cases h
   |o=>cases y<;>cases h
theorem MW(b7:Ok E σ w c)(dp:eS E σ a w c)(hd:∀d,o.dst=ah d->d<a.tmps.size){n i j:aE}{ys:ay AV}{ws:ay (aE×eA)}{X:c_ bf}(hF:vl n=ai)(hi:i<(c.P n).n)(h:(FM E n i j ys).val σ=ah ws)(nM:fD E w c X ys)(kC:0<ys.length)
  (exec:∀(cur:c_ bf),mY w (c.P n).blk cur->(c.P n).off+i*(c.P n).sz+j+X.size<=cur.size->(execOp a.eval o).run P w= .ok .skip (w.setRow (c.P n).blk (dQ cur ((c.P n).off+i*(c.P n).sz+j) X.toList))):gC P E σ a w c o (ws++dw o .un):=by
 unfold FM at h;obtain⟨ob,hg0,h⟩:=Rd.bind_some h;have hg:=c9 hg0;split at h
 ·rename_i el xs;obtain⟨te,h6,h⟩:=Rd.bind_some h;have h6:=dH h6;split at h
  ·rename_i q n2 v5;cases UW:bn n n2 with
   |true=>rw[UW]at h;simp at h
   |false=>
    rw[UW,aA]at h;have il:n≠n2:=λe=>by subst e;rw[Nat.beq_refl]at UW;cases UW
    obtain⟨ob2,anF,h⟩:=Rd.bind_some h;have Yh:=c9 anF;split at h
    ·rename_i e2 zs;obtain⟨t2,h7,h⟩:=Rd.bind_some h;have h7:=dH h7;obtain⟨h8,h⟩:=cy h;simp only[aJ]at h8;obtain⟨rP,hle⟩:=h8;have hle:=cD hle;split at h
     ·rename_i cs B_;obtain rfl:=aD h;obtain⟨m1,m2,m3⟩:=UD (E:=E) (w:=w) (c:=c) B_;obtain⟨_,_,hu⟩:=DE v5;rw[Cm]at hu;obtain⟨⟨t1,q1,fH,lj⟩,fG,g9⟩:=b7.obj n _ hg;obtain rfl:te=t1:=aD (h6.symm.trans q1);obtain⟨⟨t3,q3,JA,Bh⟩,my,_⟩:=b7.obj n2 _ Yh;obtain rfl:t2=t3:=aD (h7.symm.trans q3);have js:j+cs.length<=te.ks.length:=by rw[m2];exact hle
      have hkd:cs.map CV.kd=(te.ks.drop j).take cs.length:=by rw[m1,m2]
      have kZ:i<xs.length:=by rw[<-fG.n];exact hi
      obtain⟨iR,vals,hb⟩:=fG.pos hi;have Hd:=kD lj;have p9:=tC lj hkd js kZ;have Bd:=kD p9;have same:∀i' j',fP (dV xs i j cs) i' j'->fP xs i' j':=λi' j' hx=>(Hd i' j').2 (by have:=(Bd i' j').1 hx;rwa[iX]at this);have Fc:∀y∈xs,y.length=(c.P n).sz:=λy hy=>by rw[fH,<-lj y hy];simp
      let w':=w.setRow (c.P n).blk (dQ vals ((c.P n).off+i*(c.P n).sz+j) X.toList);have oG:∀b,b≠(c.P n).blk->w'.heap[b]? =w.heap[b]? :=λb hb=>setRow_other w _ b _ hb;have aqo:∀i j,¬fP zs i j:=by rintro i j ⟨y,x,h1,h2,h3⟩;rw[gJ rP (Bh y (aP h1)) h2]at h3;cases h3
      have WO:(c.P n2).nil=ak->e8 c n2 (.row e2 ai zs) (c.P n2).blk:=λhn=> .inl ⟨hn,rfl⟩;have BB:e8 c n (.row el ai xs) (c.P n).blk:= .inl ⟨iR,rfl⟩;have agF:(c.P n2).nil=ak->(c.P n2).blk≠(c.P n).blk:=λhn he=>il (b7.sep n _ n2 _ _ hg Yh BB (by rw[<-he];exact WO hn));let c':eJ:=⟨c.P,λm i' j'=>if m=n/\i'=i/\j'=j+q then c.P n2 else c.G m i' j',c.K⟩
      have hG1:c'.G n i (j+q)=c.P n2:=bw ⟨rfl,rfl,rfl⟩;have hG2:∀i' j',¬(i'=i/\j'=j+q)->c'.G n i' j'=c.G n i' j':=λi' j' h=>bH (λe=>h ⟨e.2.1,e.2.2⟩);have hG3:∀m,m≠n->c'.G m=c.G m:=λm hm=>by funext i' j';exact bH (λe=>hm e.1)
      have Vi:∀i' j',fP (dV xs i j cs) i' j'->(c'.G n i' j').nil=ak->(i'=i/\j'=j+q/\(c.P n2).nil=ak/\(c'.G n i' j').blk=(c.P n2).blk)\/(¬(i'=i/\j'=j+q)/\(c.G n i' j').nil=ak/\(c'.G n i' j').blk=(c.G n i' j').blk/\e8 c n (.row el ai xs) (c.G n i' j').blk):=by
       intro i' j' hh hn;by_cases he:i'=i/\j'=j+q
       ·obtain⟨rfl,rfl⟩:=he;rw[hG1]at hn⊢;exact .inl ⟨rfl,rfl,hn,rfl⟩
       ·rw[hG2 i' j' he]at hn⊢;exact .inr ⟨he,hn,rfl, .inr ⟨rfl,i',j',same i' j' hh,hn,rfl⟩⟩
      obtain⟨mz,vW⟩:=iP.ahX (R':=λi1 j1 u1 x1=>if ai=ai then XC E w' (c'.G n) i1 j1 u1 x1 else cT E w' c'.K u1 x1) fG hb Fc (i:=i) (j:=j) (cs:=cs) (vs:=X.toList) hi (by rw[fH];exact js) (by rw[dm,nM.1,m2])
       (λk x hk=>by
        obtain⟨y,hy,hxy⟩:=m3 k x hk;obtain⟨u,hu1,hu2⟩:=nM.2 k y hy;refine⟨u,by rw[cF];exact hu1, ?_⟩
        rw[bw rfl];rcases hxy with ⟨hl,hsc⟩|⟨rfl,rfl⟩
        ·exact tB hl (hsc u hu2)
        ·have uY:k=q:=hu k n2 hy;subst uY;have hu2:u=kY (c.P n2):=hu2;refine⟨by rw[hG1];exact hu2,t2,h7,rP,by rw[hG1];exact JA,Bh, ?_⟩
         rw[hG1];exact my.frame (λhn=>oG _ (agF hn)) (λi1 j1 y1 x1 u1 g1 g2 hr=>by rw[bw rfl]at hr;exact tE hr (gJ rP (Bh y1 (aP g1)) g2)))
       (λi1 y1 j1 x1 u1 h1 h2 an8 hr=>by
        rw[bw rfl]at hr⊢;have CG:XC E w' (c.G n) i1 j1 u1 x1:=hr.frame (λhl hn=>oG _ ((g9 rfl).out i1 j1 ⟨y1,x1,h1,h2,hl⟩ hn iR));have anX:¬(i1=i/\j1=j+q):=by
         rintro ⟨rfl,rfl⟩;have hq:q<cs.length:=by obtain⟨_,hq,_⟩:=DE v5;rw[Cm]at hq;rw[m2];exact(aT.1 hq).1
         rcases an8 with h|h
         ·exact h rfl
         ·exact h ⟨by omega,by omega⟩
        cases x1 with
        |l ee zz=>obtain⟨r1,r2⟩:=CG;unfold XC;rw[hG2 i1 j1 anX];exact⟨r1,r2⟩
        |i=>exact CG
        |b=>exact CG
        |s=>exact CG)
      have hr:=exec vals hb (by rw[dm]at mz;exact mz);let σ1:=oe (oe σ (cR n) (.o (.row el ai (dV xs i j cs)))) (cR n2) (.o .dead);obtain⟨s1,s2,s3⟩:=pn σ1 o .un;have key:∀m,wr σ1 (dw o .un) (cR m)=if m=n2 then .o .dead else if m=n then .o (.row el ai (dV xs i j cs))else σ (cR m):=λm=>by rw[s3];show(oe (oe σ (cR n) (.o (.row el ai (dV xs i j cs)))) (cR n2) (.o .dead)) (cR m)=_;rw[nY,nY]
      have Qx:∀m,σ (cR m)≠ .jq->wr σ1 (dw o .un) (cR m)≠ .jq:=λm hm=>by rw[key];split;simp;split;simp;exact hm
      have hA:pq σ c c':=λm _=>⟨rfl,λhf=>hG3 m (λe=>by subst e;rw[hF]at hf;cases hf)⟩
      have hCh:∀m,m=n\/m=n2->∃ob,σ (cR m)= .o ob:=by rintro m (rfl|rfl);exact⟨_,hg⟩;exact⟨_,Yh⟩
      have ic:∀m x,(m=n\/m=n2)->wr σ1 (dw o .un) (cR m)= .o x->(m=n2/\x= .dead)\/(m=n/\x= .row el ai (dV xs i j cs)):=by
       intro m x hm hx;rw[key]at hx;by_cases UC:m=n2
       ·rw[bw UC]at hx;cases hx;exact .inl ⟨UC,rfl⟩
       ·rw[bH UC,bw (hm.resolve_right UC)]at hx;cases hx;exact .inr ⟨hm.resolve_right UC,rfl⟩
      have hh:=b7.qK (σ':=wr σ1 (dw o .un)) (w':=w') (c':=c') (λm=>m=n\/m=n2) (λm hm=>by rw[key,bH (λe=>hm (.inr e)),bH (λe=>hm (.inl e))]) Qx hA (λm hm _=>hG3 m (λe=>hm (.inl e)))
       (λb _ Qw=>oG b (λe=>Qw ⟨n,_, .inl rfl,hg,by rw[e];exact BB⟩)) (by simp[w',iZ]) (λ_ h=>h) (λ_ h=> .inl h) (λb hb=>ig (b7.lt b hb) (by simp[w',iZ]))
       (λm x hm hx=>by
        rcases ic m x hm hx with ⟨rfl,rfl⟩|⟨rfl,rfl⟩
        ·trivial
        ·refine⟨⟨te,q1,fH,p9⟩,vW,λ_=>⟨λi1 j1 hh hn _ he=> ?_,λi1 j1 i2 j2 h1 h2 n1 n2' he=> ?_⟩⟩
         ·rcases Vi i1 j1 hh hn with ⟨_,_,g1,g2⟩|⟨_,g1,g2,g3⟩
          ·exact agF g1 (g2.symm.trans he)
          ·exact(g9 rfl).out i1 j1 (same i1 j1 hh) g1 iR (g2.symm.trans he)
         ·rcases Vi i1 j1 h1 n1 with ⟨a1,a2,a3,a4⟩|⟨a1,a2,a3,a4⟩<;>rcases Vi i2 j2 h2 n2' with ⟨b1,b2,b3,b4⟩|⟨b1,b2,b3,b4⟩
          ·exact⟨a1.trans b1.symm,a2.trans b2.symm⟩
          ·exfalso;exact il (b7.sep m _ n2 _ _ hg Yh b4 (by rw[<-b3,<-he,a4];exact WO a3))
          ·exfalso;exact il (b7.sep m _ n2 _ _ hg Yh a4 (by rw[<-a3,he,b4];exact WO b3))
          ·exact(g9 rfl).one i1 j1 i2 j2 (same i1 j1 h1) (same i2 j2 h2) a2 b2 (a3.symm.trans (he.trans b3)))
       (λm x b hm hx hf=>by
        rcases ic m x hm hx with ⟨rfl,rfl⟩|⟨rfl,rfl⟩
        ·exact hf.elim
        ·have afS:jA (λk=>k=m\/k=n2) σ c b:=by
          rcases hf with ⟨_,rfl⟩|⟨_,i1,j1,hh,hn,rfl⟩
          ·exact⟨m,_, .inl rfl,hg,BB⟩
          ·rcases Vi i1 j1 hh hn with ⟨_,_,g1,g2⟩|⟨_,g1,g2,g3⟩
           ·rw[g2];exact⟨n2,_, .inr rfl,Yh,WO g1⟩
           ·rw[g2];exact⟨m,_, .inl rfl,hg,g3⟩
         exact⟨.inl afS,b7.Fp afS.own⟩)
       (λm x m' x' b hm uZ hx oH hf vZ=>by
        rcases ic m x hm hx with ⟨rfl,rfl⟩|⟨rfl,rfl⟩
        ·exact hf.elim
        ·rcases ic m' x' uZ oH with ⟨rfl,rfl⟩|⟨rfl,rfl⟩
         ·exact vZ.elim
         ·rfl)
       (λm bs hm hx=>by rcases ic m _ hm hx with ⟨_,h⟩|⟨_,h⟩<;>cases h) rfl rfl rfl
      intro K Q hK;refine vi hr (hK undef w' c' hh.1 ?_ hh.2 hA);refine dp.qK b7 hh.2 hA Qx o undef (λk hk=>by rw[s1 k hk];show slot (oe (oe σ (cR n) (.o (.row el ai (dV xs i j cs)))) (cR n2) (.o .dead)) k=_;rw[iz,iz]) (λd ho=>⟨hd d ho, ?_, ?_⟩)
      ·rw[s2 d ho];trivial
      ·rw[s2 d ho];intro k hk;simp[cw]at hk
     ·simp at h
    ·simp at h
  ·simp at h
 ·simp at h
theorem Vo{ys:ay AV}{n i j lo hi:aE}(h:Vn ys=ah (n,i,j,lo,hi)):ys=[.iv n i j lo hi]:=by
 unfold Vn at h;split at h
 ·cases h;rfl
 ·cases h
theorem Qm(b7:Ok E σ w c)(dp:eS E σ a w c)(hd:∀d,o.dst=ah d->d<a.tmps.size){n i j i2 j2 lo E6:aE}{ws:ay (aE×eA)}{X:c_ bf}(hF:vl n=ak)(hi:i<(c.P n).n)(h:(Uy E n i j i2 j2 lo E6).val σ=ah ws)(nM:fD E w c X [.iv n i2 j2 lo E6])
  (exec:∀(cur:c_ bf),mY w (c.P n).blk cur->(c.P n).off+i*(c.P n).sz+j+X.size<=cur.size->(execOp a.eval o).run P w= .ok .skip (w.setRow (c.P n).blk (dQ cur ((c.P n).off+i*(c.P n).sz+j) X.toList))):gC P E σ a w c o (ws++dw o .un):=by
 unfold Uy at h;obtain⟨ob,hg0,h⟩:=Rd.bind_some h;have hg:=c9 hg0;split at h
 ·rename_i el xs;obtain⟨te,h6,h⟩:=Rd.bind_some h;have h6:=dH h6;split at h
  ·rename_i e2 e3 hk wM;obtain⟨UW,h9⟩:=cy h;clear h;have:=aR UW;subst this;obtain rfl:=aD h9;obtain⟨u,hu,⟨⟨CE,hvw⟩,_⟩⟩:=nM.2 0 _ rfl;obtain⟨⟨t1,q1,fH,lj⟩,fG,g9⟩:=b7.obj n _ hg;obtain rfl:te=t1:=aD (h6.symm.trans q1);obtain⟨zs,y,t3,r1,r2,r3,r4,r5,r6,r7,_⟩:=v8 b7 hg h6 wM CE;rw[eK r1 r2];simp only[iD];generalize B_:[CV.l e2 (eu zs lo E6)]=cs;have afI:cs.length=1:=by rw[<-B_];rfl
   have hjk:j<te.ks.length:=(aT.1 hk).1;have js:j+cs.length<=te.ks.length:=by omega
   have hkd:cs.map CV.kd=(te.ks.drop j).take cs.length:=by rw[afI,List.take_one,X1,hk,<-B_];rfl
   have kZ:i<xs.length:=by rw[<-fG.n];exact hi
   obtain⟨iR,vals,hb⟩:=fG.pos hi;have p9:=tC lj hkd js kZ;have Fc:∀y∈xs,y.length=(c.P n).sz:=λy hy=>by rw[fH,<-lj y hy];simp
   let w':=w.setRow (c.P n).blk (dQ vals ((c.P n).off+i*(c.P n).sz+j) X.toList);have oG:∀b,b≠(c.P n).blk->w'.heap[b]? =w.heap[b]? :=λb hb=>setRow_other w _ b _ hb;have BB:e8 c n (.row el ai xs) (c.P n).blk:= .inl ⟨iR,rfl⟩;let K':aE->Prop:=λb=>c.K b\/∃i1 j1,fP xs i1 j1/\(c.G n i1 j1).nil=ak/\b=(c.G n i1 j1).blk;let c':eJ:=⟨c.P,c.G,K'⟩
   have Qo:∀b,K' b->b≠(c.P n).blk:=by
    rintro b (hb|⟨i1,j1,hh,hn,rfl⟩) he
    ·exact b7.kk n _ _ hg BB (he▸hb)
    ·exact(g9 rfl).out i1 j1 hh hn iR he
   have hold:∀(i1:aE) (y1:ay CV) (j1:aE) (x1:CV) (u1:bf),xs[i1]? =ah y1->y1[j1]? =ah x1->XC E w (c.G n) i1 j1 u1 x1->cT E w' K' u1 x1:=by intro i1 y1 j1 x1 u1 h1 h2 hr;have hh:cT E w K' u1 x1:=sW hr (λhl hn=> .inr ⟨i1,j1,⟨y1,x1,h1,h2,hl⟩,hn,rfl⟩);exact hh.frame (λb hb=>oG b (Qo b hb)) (λ_ h=>h)
   have tV:cT E w' K' u (.l e2 (eu zs lo E6)):=by
    have hh:cT E w K' (kY (c.G n i2 j2)) (.l e2 zs):=
     nk r3 r5 r6 (r7.frame (λ_=>rfl) (λi j y x u hi hj hr=>jx (gJ r4 (r6 y (aP hi)) hj) hr)) (λhn=> .inr ⟨i2,j2,⟨y,_,r1,r2,rfl⟩,hn,rfl⟩)
    exact(Bg r3 hh r7.n r5 hvw).frame (λb hb=>oG b (Qo b hb)) (λ_ h=>h)
   obtain⟨mz,vW⟩:=iP.put (R':=λi1 j1 u1 x1=>if ak=ai then XC E w' (c'.G n) i1 j1 u1 x1 else cT E w' c'.K u1 x1) fG hb Fc (i:=i) (j:=j) (cs:=cs) (vs:=X.toList) hi (by rw[fH];exact js) (by rw[dm,nM.1,afI];rfl)
    (λk x hk=>by
     rw[<-B_]at hk;cases k with
     |zero=>
      cases hk;refine⟨u,by rw[cF];exact hu, ?_⟩
      rw[bH (by simp)];exact tV
     |succ k=>simp at hk)
    (λi1 y1 j1 x1 u1 h1 h2 hr=>by rw[bw rfl]at hr;rw[bH (by simp)];exact hold i1 y1 j1 x1 u1 h1 h2 hr)
   have hr:=exec vals hb (by rw[dm]at mz;exact mz);let σ1:=oe σ (cR n) (.o (.row el ak (dV xs i j cs)));obtain⟨s1,s2,s3⟩:=pn σ1 o .un;have key:∀m,wr σ1 (dw o .un) (cR m)=if m=n then .o (.row el ak (dV xs i j cs))else σ (cR m):=λm=>by rw[s3];show(oe σ (cR n) (.o (.row el ak (dV xs i j cs)))) (cR m)=_;rw[nY]
   have Qx:∀m,σ (cR m)≠ .jq->wr σ1 (dw o .un) (cR m)≠ .jq:=λm hm=>by rw[key];split;simp;exact hm
   have hA:pq σ c c':=λm _=>⟨rfl,λ_=>rfl⟩
   have ic:∀m x,m=n->wr σ1 (dw o .un) (cR m)= .o x->x= .row el ak (dV xs i j cs):=by intro m x hm hx;rw[key,bw hm]at hx;cases hx;rfl
   have hh:=b7.qK (σ':=wr σ1 (dw o .un)) (w':=w') (c':=c') (λm=>m=n) (λm hm=>by rw[key,bH hm]) Qx hA (λm hm _=>rfl)
    (λb _ Qw=>oG b (λe=>Qw ⟨n,_,rfl,hg,by rw[e];exact BB⟩)) (by simp[w',iZ]) (λ_ h=> .inl h)
    (λb hb=>by
     rcases hb with hb|⟨i1,j1,hh,hn,rfl⟩
     ·exact .inl hb
     ·exact .inr (.inl ⟨n,_,rfl,hg, .inr ⟨rfl,i1,j1,hh,hn,rfl⟩⟩))
    (λb hb=>by
     have jt:b<w.heap.size:=by
      rcases hb with hb|⟨i1,j1,hh,hn,rfl⟩
      ·exact b7.lt b hb
      ·exact uJ.lt b7 ⟨n,_,hg, .inr ⟨rfl,i1,j1,hh,hn,rfl⟩⟩
     exact ig jt (by simp[w',iZ]))
    (λm x hm hx=>by obtain rfl:=ic m x hm hx;subst hm;exact⟨⟨te,q1,fH,p9⟩,vW,λh=>by cases h⟩)
    (λm x b hm hx hf=>by
     obtain rfl:=ic m x hm hx;subst hm;rcases hf with ⟨_,rfl⟩|⟨hx,_⟩
     ·exact⟨.inl ⟨m,_,rfl,hg,BB⟩,λhk=>Qo _ hk rfl⟩
     ·cases hx)
    (λm x m' x' b hm uZ hx oH hf vZ=>by rw[hm,uZ])
    (λm bs hm hx=>by have:=ic m _ hm hx;cases this) rfl rfl rfl
   intro K Q hK;refine vi hr (hK undef w' c' hh.1 ?_ hh.2 hA);refine dp.qK b7 hh.2 hA Qx o undef (λk hk=>by rw[s1 k hk];show slot (oe σ (cR n) (.o (.row el ak (dV xs i j cs)))) k=_;rw[iz]) (λd ho=>⟨hd d ho, ?_, ?_⟩)
   ·rw[s2 d ho];trivial
   ·rw[s2 d ho];intro k hk;simp[cw]at hk
  ·simp at h
 ·simp at h
theorem RE(hE:d_ P E)(b7:Ok E σ w c)(dp:eS E σ a w c)(hd:∀d,o.dst=ah d->d<a.tmps.size){t:aE}{p x:da}(ho:o.op= .store t p x)(h:(lE E nm o).val σ=ah e):gC P E σ a w c o e.ws:=by
 simp only[lE,ho]at h;obtain⟨ti,h1,h⟩:=Rd.bind_some h;obtain⟨pv,h2,h⟩:=Rd.bind_some h;obtain⟨xv,h3,h⟩:=Rd.bind_some h;have h1:=dH h1;obtain⟨ep,kp⟩:=iM dp h2;obtain⟨ex,kx⟩:=lL dp h3;cases xv with
 |v g ys=>
  obtain⟨h4,h⟩:=cy h;have h4:=aR h4;obtain⟨ws,h5,h⟩:=Rd.bind_some h;obtain rfl:=aD h;have nM:=pD.cells ex;have B_:(a.eval x).cells.size=ti.ks.length:=by rw[nM.1,h4]
  have ky:∀b∈ys,iV σ b:=λb hb n hn=>kx n (bG.2 ⟨b,hb,hn⟩);obtain⟨_,_,_,_,kC,_⟩:=hE.info t ti h1;have exec:∀{b of:aE} {cur:c_ bf},a.eval p= .pointer (ah (ad b of))->mY w b cur->of+(a.eval x).cells.size<=cur.size->(execOp a.eval o).run P w= .ok .skip (w.setRow b (dQ cur of (a.eval x).cells.toList)):=by intro b of cur hp hb hf;unfold execOp;rw[ho];refine Xo ?_;rw[hp];exact HR w hE h1 B_ hb hf nM.one
  have hkK:∀(b:aE) (new:c_ bf),uJ σ c b->∀b',c.K b'->(w.setRow b new).heap[b']? =w.heap[b']? :=by intro b new hb b' hk;exact setRow_other w b b' new (λe=>by subst e;exact b7.Fp hb hk)
  have h50:(FN E pv ys).val σ=ah ws\/(∃n i j,pv= .rp n i j/\vl n=ai/\(FM E n i j ys).val σ=ah ws)\/(∃n i j i2 j2 lo hi,pv= .rp n i j/\vl n=ak/\ys=[.iv n i2 j2 lo hi]/\(Uy E n i j i2 j2 lo hi).val σ=ah ws):=by
   cases pv with
   |rp n i j=>
    unfold SX at h5;simp only at h5;cases hF:vl n with
    |true=>rw[hF,au]at h5;exact .inr (.inl ⟨n,i,j,rfl,hF,h5⟩)
    |false=>
     rw[hF,aA]at h5;cases hv:Vn ys with
     |none=>rw[hv]at h5;exact .inl h5
     |some q=>obtain⟨n2,i2,j2,lo,hi⟩:=q;rw[hv]at h5;obtain⟨hb,h9⟩:=cy h5;clear h5;have:=aR hb;subst this;exact .inr (.inr ⟨n,i,j,i2,j2,lo,hi,rfl,hF,Vo hv,h9⟩)
   |_=>exact .inl h5
  clear h5;rcases h50 with h5|⟨n,i,j,rfl,hF,h5⟩|⟨n,i,j,i2,j2,lo,hi,rfl,hF,rfl,h5⟩
  rotate_left
  ·obtain⟨hpi,hpv⟩:=ep;exact MW b7 dp hd hF hpi h5 nM (by rw[<-h4]at kC;exact kC) (λcur hb hf=>exec hpv hb hf)
  ·obtain⟨hpi,hpv⟩:=ep;exact Qm b7 dp hd hF hpi h5 nM (λcur hb hf=>exec hpv hb hf)
  cases pv with
  |bp n j=>
   obtain⟨ob,hg,h5⟩:=Rd.bind_some h5;have hg:=c9 hg;cases ob with
   |box xs=>
    obtain⟨h6,h5⟩:=cy h5;have h6:=cD h6;obtain rfl:=aD h5;obtain⟨cur,hb,fH,Yf⟩:=b7.obj n _ hg;have u0:uJ σ c (c.P n).blk:=⟨n,_,hg,rfl⟩
    have mz:j+(a.eval x).cells.size<=cur.size:=by rw[nM.1,fH];exact h6
    have afN:j+(a.eval x).cells.toList.length<=cur.size:=by rw[dm];exact mz
    have CD:=hkK (c.P n).blk (dQ cur j (a.eval x).cells.toList) u0;refine sD b7 dp hd hg (ob':= .box (jb xs j ys)) ?_ (λb hb=>hb) (λzs hz b hb=> ?_) (s:= .un) trivial (λn hn=>by simp[cw]at hn) (λb hb N3=>setRow_other w _ b _ (λe=>N3 e)) (by simp[iZ]) rfl rfl rfl (.inr ⟨exec ep hb mz,rfl⟩)
    ·have:=(fD.put (E:=E) (w:=w) (c:=c) ⟨fH,Yf⟩ nM h6)
     refine⟨_,hb.setRow (eN afN),this.1,λq b hq=> ?_⟩
     obtain⟨u,hu,hub⟩:=this.2 q b hq;exact⟨u,hu,hub.frame CD (λ_ h=>h) (λ_ _=>⟨rfl,rfl⟩)⟩
    ·cases hz;rcases Bl hb with hb|hb
     ·exact b7.kn n xs hg b hb
     ·exact ky b hb
   |_=>simp at h5
  |rp n i j=>
   obtain⟨ob,hg,h5⟩:=Rd.bind_some h5;have hg:=c9 hg;cases ob with
   |row el zD xs=>
    obtain⟨te,h6,h5⟩:=Rd.bind_some h5;have h6:=dH h6;obtain⟨h7,h5⟩:=cy h5;obtain⟨⟨cs,w2⟩,h8,h5⟩:=Rd.bind_some h5;obtain rfl:=aD h5;obtain⟨m1,m2,_,m3⟩:=AZ (E:=E) (w:=w) (c:=c) h7 h8;obtain⟨⟨t2,q1,fH,lj⟩,fG,g9⟩:=b7.obj n _ hg;obtain rfl:te=t2:=aD (h6.symm.trans q1);obtain⟨hi,hpv⟩:=ep;have hlk:cs.length=((te.ks.drop j).take ys.length).length:=by rw[<-m1];simp
    have js:j+cs.length<=te.ks.length:=by
     rw[er,eL]at hlk;have:0<cs.length:=by rw[m2,h4];exact kC
     omega
    have hkd:cs.map CV.kd=(te.ks.drop j).take cs.length:=by rw[m1,m2]
    have kZ:i<xs.length:=by rw[<-fG.n];exact hi
    have iR:(c.P n).nil=false:=by
     cases hn:(c.P n).nil with
     |false=>rfl
     |true=>have:=(fG.nil hn).1;subst this;simp at kZ
    have u0:uJ σ c (c.P n).blk:=⟨n,_,hg, .inl ⟨iR,rfl⟩⟩
    have CD:=λnew=>hkK (c.P n).blk new u0;have Hd:=kD lj;have p9:=tC lj hkd js kZ;have Bd:=kD p9;have same:∀i' j',fP (dV xs i j cs) i' j'->fP xs i' j':=λi' j' hx=>(Hd i' j').2 (by have:=(Bd i' j').1 hx;rwa[iX]at this);obtain⟨_,vals,hb⟩:=fG.pos hi;have Fc:∀y∈xs,y.length=(c.P n).sz:=λy hy=>by rw[fH,<-lj y hy];simp
    have anC:=CD (dQ vals ((c.P n).off+i*(c.P n).sz+j) (a.eval x).cells.toList);have hw:∀b,c.K b->(w.setRow (c.P n).blk (dQ vals ((c.P n).off+i*(c.P n).sz+j) (a.eval x).cells.toList)).heap[b]? =w.heap[b]? :=anC;generalize Ll:w.setRow (c.P n).blk (dQ vals ((c.P n).off+i*(c.P n).sz+j) (a.eval x).cells.toList)=w' at hw;have oG:∀b,b≠(c.P n).blk->w'.heap[b]? =w.heap[b]? :=λb hb=>by rw[<-Ll];exact setRow_other w _ b _ hb
    obtain⟨mz,vW⟩:=iP.put (R':=λi1 j1 u1 x1=>if zD=ai then XC E w' (c.G n) i1 j1 u1 x1 else cT E w' c.K u1 x1) fG hb Fc (i:=i) (j:=j) (cs:=cs) (vs:=(a.eval x).cells.toList) hi (by rw[fH];exact js) (by rw[dm,nM.1,m2])
     (λq y hq=>by
      obtain⟨r1,r2,r3⟩:=m3 _ nM q y hq;refine⟨NK y,by rw[cF];exact r1, ?_⟩
      split
      ·exact tB r2 ⟨rfl,r3⟩
      ·exact jx r2 ⟨rfl,r3⟩)
     (λi1 y1 j1 x1 u1 h1 h2 hr=>by
      cases zD with
      |true=>rw[bw rfl]at hr⊢;exact hr.frame (λhl hn=>oG _ ((g9 rfl).out i1 j1 ⟨y1,x1,h1,h2,hl⟩ hn iR))
      |false=>rw[bH (by simp)]at hr⊢;exact hr.frame hw (λ_ h=>h))
    rw[Ll]at vW;refine sD b7 dp hd hg (ob':= .row el zD (dV xs i j cs)) ?_ ?_ (λzs hz=>by cases hz) (s:= .un) trivial (λn hn=>by simp[cw]at hn) (w':=w') (λb hb N3=>oG b (λe=>N3 (.inl ⟨iR,e⟩))) (by rw[<-Ll];simp[iZ]) (by rw[<-Ll];rfl) (by rw[<-Ll];rfl) (by rw[<-Ll];rfl) (.inr ⟨?_,rfl⟩)
    ·exact⟨⟨te,q1,fH,p9⟩,vW,λhx=>⟨λi1 j1 hh=>(g9 hx).out i1 j1 (same i1 j1 hh),λi1 j1 i2 j2 h1 h2=>(g9 hx).one i1 j1 i2 j2 (same i1 j1 h1) (same i2 j2 h2)⟩⟩
    ·rintro b (hb|⟨hx,i1,j1,hh,hn⟩)
     ·exact .inl hb
     ·exact .inr ⟨hx,i1,j1,same i1 j1 hh,hn⟩
    ·rw[<-Ll];refine exec hpv hb ?_;rw[dm]at mz;exact mz
   |_=>simp at h5
  |ip n i j i2 j2=>
   obtain⟨ob,hg,h5⟩:=Rd.bind_some h5;have hg:=c9 hg;cases ob with
   |row el zD xs=>
    cases zD with
    |false=>simp at h5
    |true=>
    obtain⟨te,h6,h5⟩:=Rd.bind_some h5;have h6:=dH h6;split at h5
    ·rename_i e2 wM;obtain⟨t2,h7,h5⟩:=Rd.bind_some h5;have h7:=dH h7;obtain⟨h8,h5⟩:=cy h5;obtain⟨⟨cs,w2⟩,h9,h5⟩:=Rd.bind_some h5;obtain rfl:=aD h5;have af8:plain ((t2.ks.drop j2).take ys.length)=true:=bu.2 (λk hk=>bu.1 h8 k (kT (kq hk)));obtain⟨m1,m2,_,m3⟩:=AZ (E:=E) (w:=w) (c:=c) af8 h9;obtain⟨⟨hi,CE,hpv⟩,_⟩:=ep;obtain⟨⟨t1,q1,fH,lj⟩,fG,g9⟩:=b7.obj n _ hg;obtain rfl:te=t1:=aD (h6.symm.trans q1);obtain⟨zs,y,t3,r1,r2,r3,r4,r5,r6,r7,_⟩:=v8 b7 hg h6 wM hi;obtain rfl:t2=t3:=aD (h7.symm.trans r3);rw[eK r1 r2];simp only[iD];have hlk:cs.length=((t2.ks.drop j2).take ys.length).length:=by rw[<-m1];simp
     have js:j2+cs.length<=t2.ks.length:=by
      rw[er,eL]at hlk;have:0<cs.length:=by rw[m2,h4];exact kC
      omega
     have hkd:cs.map CV.kd=(t2.ks.drop j2).take cs.length:=by rw[m1,m2]
     have anI:i2<zs.length:=by rw[<-r7.n];exact CE
     have kZ:i<xs.length:=(aT.1 r1).1;obtain⟨Bf,vals,hb⟩:=r7.pos CE;obtain⟨iR,pv,hpb⟩:=fG.pos hi;have CF:fP xs i j:=⟨y,_,r1,r2,rfl⟩
     have u0:uJ σ c (c.G n i j).blk:=⟨n,_,hg, .inr ⟨rfl,i,j,CF,Bf,rfl⟩⟩
     have hw:=hkK (c.G n i j).blk (dQ vals ((c.G n i j).off+i2*(c.G n i j).sz+j2) (a.eval x).cells.toList) u0;have JD:∀y∈zs,y.length=(c.G n i j).sz:=λy hy=>by rw[r5,<-r6 y hy];simp
     obtain⟨mz,vW⟩:=iP.put (R':=λ_ _ u1 x1=>Sc u1 x1) r7 hb JD (i:=i2) (j:=j2) (cs:=cs) (vs:=(a.eval x).cells.toList) CE (by rw[r5];exact js) (by rw[dm,nM.1,m2])
      (λq y hq=>⟨NK y,by rw[cF];exact(m3 _ nM q y hq).1,rfl,(m3 _ nM q y hq).2.2⟩) (λ_ _ _ _ _ _ _ hr=>hr)
     generalize Ll:w.setRow (c.G n i j).blk (dQ vals ((c.G n i j).off+i2*(c.G n i j).sz+j2) (a.eval x).cells.toList)=w' at hw vW;have oG:∀b,b≠(c.G n i j).blk->w'.heap[b]? =w.heap[b]? :=λb hb=>by rw[<-Ll];exact setRow_other w _ b _ hb
     have hjk:j<te.ks.length:=(aT.1 wM).1;have ab7:[CV.l e2 (dV zs i2 j2 cs)].map CV.kd=(te.ks.drop j).take [CV.l e2 (dV zs i2 j2 cs)].length:=by rw[bB,List.take_one,X1,wM];rfl
     have p9:=tC (i:=i) (j:=j) (cs:=[CV.l e2 (dV zs i2 j2 cs)]) lj ab7 (by simp;omega) kZ;have Hd:=kD lj;have Bd:=kD p9;have same:∀i' j',fP (dV xs i j [CV.l e2 (dV zs i2 j2 cs)]) i' j'->fP xs i' j':=λi' j' hx=>(Hd i' j').2 (by have:=(Bd i' j').1 hx;rwa[iX]at this);have acg:(c.P n).blk≠(c.G n i j).blk:=λe=>(g9 rfl).out i j CF Bf iR e.symm;have my:iP w' (c.P n) (dV xs i j [CV.l e2 (dV zs i2 j2 cs)]) (λi1 j1 u1 x1=>if ai=ai then XC E w' (c.G n) i1 j1 u1 x1 else cT E w' c.K u1 x1):=by
      obtain⟨vs,k1,k2,k3,k4,k5⟩:=fG.mem iR;refine⟨by rw[iX];exact fG.n,λhn=>(by rw[iR]at hn;cases hn),λ_=>⟨vs,k1.frame (oG _ acg),k2,k3,k4,λi1 y1 j1 x1 g1 g2=> ?_⟩⟩
      rw[wv r1]at g1;simp only[if_true]at k5⊢;by_cases Hc:i1=i
      ·subst Hc;rw[bw rfl]at g1;cases g1;have Fc:y.length=te.ks.length:=by rw[<-lj y (aP r1)];simp
       rw[oL (by simp;omega)]at g2;by_cases hq:j<=j1/\j1<j+[CV.l e2 (dV zs i2 j2 cs)].length
       ·rw[bw hq]at g2;have:j1=j:=by simp at hq;omega
        subst this;simp at g2;subst g2;obtain⟨u,hu,hr⟩:=k5 _ _ _ _ r1 r2;refine⟨u,hu,hr.1,t2,r3,r4,r5,tC r6 hkd js anI,vW⟩
       ·rw[bH hq]at g2;obtain⟨u,hu,hr⟩:=k5 _ _ _ _ r1 g2;refine⟨u,hu,hr.frame (λhl hn=>oG _ (λe=> ?_))⟩
        have:=((g9 rfl).one _ _ _ _ ⟨y,x1,r1,g2,hl⟩ CF hn Bf e).2;simp at hq;omega
      ·rw[bH Hc]at g1;obtain⟨u,hu,hr⟩:=k5 _ _ _ _ g1 g2;exact⟨u,hu,hr.frame (λhl hn=>oG _ (λe=>Hc ((g9 rfl).one _ _ _ _ ⟨y1,x1,g1,g2,hl⟩ CF hn Bf e).1))⟩
     refine sD b7 dp hd hg (ob':= .row el ai (dV xs i j [CV.l e2 (dV zs i2 j2 cs)])) ?_ ?_ (λzs hz=>by cases hz) (s:= .un) trivial (λn hn=>by simp[cw]at hn) (w':=w') (λb hb N3=>oG b (λe=>N3 (.inr ⟨rfl,i,j,CF,Bf,e⟩))) (by rw[<-Ll];simp[iZ]) (by rw[<-Ll];rfl) (by rw[<-Ll];rfl) (by rw[<-Ll];rfl) (.inr ⟨?_,rfl⟩)
     ·exact⟨⟨te,q1,fH,p9⟩,my,λhx=>⟨λi1 j1 hh=>(g9 hx).out i1 j1 (same i1 j1 hh),λi1 j1 i2 j2 h1 h2=>(g9 hx).one i1 j1 i2 j2 (same i1 j1 h1) (same i2 j2 h2)⟩⟩
     ·rintro b (hb|⟨hx,i1,j1,hh,hn⟩)
      ·exact .inl hb
      ·exact .inr ⟨hx,i1,j1,same i1 j1 hh,hn⟩
     ·rw[<-Ll];refine exec hpv hb ?_;rw[dm]at mz;exact mz
    ·simp at h5
   |_=>simp at h5
  |_=>simp[FN]at h5
 |jE=>simp at h
 |un=>simp at h
end
end Go.FG

namespace Go.FG
theorem Nx{ks:ay Ck}(h:plain ks=ai):JN ks=true:=by refine bu.2 (λk hk=> ?_);have:=bu.1 h k hk;cases k<;>first|rfl|exact this
theorem sM{xs:aU}{ks:ay Ck}(h:∀y∈xs,y.map CV.kd=ks)(hp:plain ks=ai){i j:aE}:¬fP xs i j:=by intro hx;obtain⟨_,e,hk⟩:=(kD h i j).1 hx;have:=bu.1 hp _ (aP hk);cases this
theorem GP{xs z:aU}{lo hi:aE}(h1:lo<=hi)(h2:hi<=xs.length)(hz:z.length=hi-lo)(i:aE):(xs.take lo++z++xs.drop hi)[i]? =if lo<=i/\i<hi then z[i-lo]? else xs[i]? :=by
 by_cases a:i<lo
 ·rw[bH (by omega),ch,dr (by simp;omega),dR,bw a]
 ·by_cases b:i<hi
  ·rw[bw ⟨by omega,b⟩,ch,cX (by simp;omega),dr (by simp;omega)];congr 1;simp;omega
  ·rw[bH (by omega),ch,cX (by simp;omega),cX (by simp;omega),dJ];congr 1;simp;omega
section
variable {P:cM} {E:fm} {σ:St} {a:Act} {w:bD} {c:eJ} {o:eV} {nm:aE} {e:rW}
theorem NH{t ty el:aE}{z:bf}{inf:ID}(hu:P.underlying t=ah (.slice el))(hi:P.info? el=ah inf)(hz:inf.zero=ah z){b of n cp:aE}{cur:c_ bf}(hn:0<n)(hb:mY w b cur)(hf:of+n*z.cells.size<=cur.size)(h1:∀u∈z.cells.toList,u.oneCell'=ai):
  (n6 #[t] ty #[.slice (ah (ad b of)) n cp]).run P w= .ok (.tuple #[]) (w.setRow b (dQ cur of (madeCells z.cells (n*z.cells.size)).toList)):=by
 have Jz:=mW (P:=P) w (o:=of) (vs:=(madeCells z.cells (n*z.cells.size)).toList) hb (by simpa [size_madeCells]using hf) (λv hv=>by
  unfold madeCells at hv;simp only[zh,cO]at hv;obtain⟨q,hq,rfl⟩:=hv;have hq:q<n*z.cells.size:=by simpa using hq
  have hp:0<z.cells.size:=by rcases B5 z.cells.size with h|h;(rw[h]at hq;simp at hq);exact h
  have:q%z.cells.size<z.cells.size:=B6 _ hp;rw[getElem!_pos z.cells _ this];exact h1 _ (by simp))
 have hz':(fu z.cells n)=madeCells z.cells (n*z.cells.size):=rfl;cases n with
 |zero=>omega
 |succ n=>simp[n6,run_underlying hu,zeroValue,typeInfo,hi,hz,hz',Jz]
theorem BO{t ty el:aE}(hu:P.underlying t=ah (.slice el)){A:aC Addr}{cp:aE}:(n6 #[t] ty #[.slice A 0 cp]).run P w= .ok (.tuple #[]) w:=by cases A<;>simp[n6,run_underlying hu]
theorem RA(hE:d_ P E)(b7:Ok E σ w c)(dp:eS E σ a w c)(hd:∀d,o.dst=ah d->d<a.tmps.size){cl:Call}(ho:o.op= .call cl)(hb:cl.callee= .builtin .clear)(h:(lE E nm o).val σ=ah e):gC P E σ a w c o e.ws:=by
 simp only[lE,ho,hb]at h;split at h
 ·rename_i x hx;split at h
  ·rename_i t ht;obtain⟨k,hk,h⟩:=Rd.bind_some h;cases k with
   |l el=>
    obtain⟨v,h1,h⟩:=Rd.bind_some h;obtain⟨ws,h2,h⟩:=Rd.bind_some h;obtain rfl:=aD h;obtain⟨ev,kv⟩:=iM dp h1;have hu:=j7 hE hk;have hx:=mS hx;have ht:=mS ht;have exec:∀{w'},(n6 #[t] o.type #[a.eval x]).run P w= .ok (.tuple #[]) w'->(execOp a.eval o).run P w= .ok (.value (.tuple #[])) w':=by intro w' hr;obtain⟨cs,B_⟩:=mc (P:=P) (a:=a) (w:=w) ho hb;rw[B_,hx,ht];simp only[builtin,Cj,eW,Av];exact iJ hr
    have sv:iW E w c (.jE []) (.tuple #[]):=⟨#[],rfl,rfl,λj agg xs hj=>by simp at hj⟩
    have aj:∀A cp,a.eval x= .slice A 0 cp->(execOp a.eval o).run P w= .ok (.value (.tuple #[])) w:=λA cp hv=>exec (by rw[hv];exact BO hu);have main:∀(n:aE) (ex:aW) (xs:aU) (lo hi:aE) (te:TI),σ (cR n)= .o (.row el ex xs)->E.ty el=ah te->plain te.ks=ai->uT (c.P n) lo hi (a.eval x)->gC P E σ a w c o ([(cR n, .o (.row el ex (xs.take lo++aN te.ks (hi-lo)++xs.drop hi)))]++dw o (.jE [])):=by
     intro n ex xs lo hi te hg JB rP hv;obtain⟨⟨t2,q1,fH,lj⟩,fG,g9⟩:=b7.obj n _ hg;obtain rfl:te=t2:=aD (JB.symm.trans q1);obtain⟨v1,v2,v3,v4⟩:=hv;have hle:hi<=xs.length:=by rw[<-fG.n];exact v2
     have yq:=Nx rP;have JD:(aN te.ks (hi-lo)).length=hi-lo:=by simp[aN]
     by_cases hz:hi-lo=0
     ·have QC:xs.take lo++aN te.ks (hi-lo)++xs.drop hi=xs:=by
       have:hi=lo:=by omega
       subst this;simp[aN]
      rw[QC];have hr:(execOp a.eval o).run P w= .ok (.value (.tuple #[])) w:=by
       cases hq:(c.P n).nil with
       |true=>exact aj _ _ (v3 hq)
       |false=>
        rcases v4 hq with ⟨_,h⟩|⟨_,oo,_,h⟩
        ·rw[hz]at h;exact aj _ _ h
        ·exact aj _ _ h
      exact sD b7 dp hd hg (b7.obj n _ hg) (λb hb=>hb) (λzs hz=>by cases hz) sv (λn hn=>by simp[cw]at hn) (λb _ _=>rfl) (cu _) rfl rfl rfl (.inl hr)
     ·have iR:(c.P n).nil=false:=by
       cases hq:(c.P n).nil with
       |false=>rfl
       |true=>have:=(fG.nil hq).1;subst this;simp at hle;omega
      obtain⟨vals,k1,k2,k3,k4,k5⟩:=fG.mem iR;rcases v4 iR with ⟨u1,hv⟩|⟨u1,oo,_,hv⟩
      ·obtain⟨inf,jL,avk,_,_,Io⟩:=hE.info el te JB;obtain⟨z,CJ,hz3,_⟩:=Io yq;have N6:z.cells.size=te.ks.length:=by rw[hz3];simp
       have hbd:(c.P n).off+lo*(c.P n).sz+(hi-lo)*z.cells.size<=vals.size:=by rw[N6,<-fH,lB,<-c7];have:(lo+(hi-lo))*(c.P n).sz<=(c.P n).cap*(c.P n).sz:=bY _ (by omega);omega
       have hr:=NH (P:=P) (w:=w) (ty:=o.type) (of:=(c.P n).off+lo*(c.P n).sz) (n:=hi-lo) (cp:=(c.P n).cap-lo) hu jL CJ (by omega) k1 hbd (by rw[hz3];intro u rA;obtain⟨k,ui,rfl⟩:=cO.1 (by simpa using rA:u∈te.ks.map im);cases k<;>rfl);rw[<-hv]at hr;have u0:uJ σ c (c.P n).blk:=⟨n,_,hg, .inl ⟨iR,rfl⟩⟩
       rw[N6,hz3]at hr;have hml:(madeCells (te.ks.map im).toArray ((hi-lo)*te.ks.length)).toList.length=(hi-lo)*te.ks.length:=by simp[size_madeCells]
       have abT:(c.P n).off+lo*(c.P n).sz+(madeCells (te.ks.map im).toArray ((hi-lo)*te.ks.length)).toList.length<=vals.size:=by rw[hml,<-N6];exact hbd
       have Dw:=k1.setRow (eN abT);have afO:=f_ abT;generalize tV:dQ vals ((c.P n).off+lo*(c.P n).sz) (madeCells (te.ks.map im).toArray ((hi-lo)*te.ks.length)).toList=new at hr Dw afO;have anZ:new.size=vals.size:=by rw[<-tV];exact eN abT
       have oG:∀b,b≠(c.P n).blk->(w.setRow (c.P n).blk new).heap[b]? =w.heap[b]? :=λb hb=>setRow_other w _ b _ hb;have hw:∀b,c.K b->(w.setRow (c.P n).blk new).heap[b]? =w.heap[b]? :=λb hk=>oG b (λe=>by subst e;exact b7.Fp u0 hk);have p9:∀y∈xs.take lo++aN te.ks (hi-lo)++xs.drop hi,y.map CV.kd=te.ks:=by
        intro y hy;rw[a_,a_]at hy;rcases hy with (hy|hy)|hy
        ·exact lj y (kq hy)
        ·exact wF yq _ y hy
        ·exact lj y (kT hy)
       refine sD b7 dp hd hg (ob':= .row el ex (xs.take lo++aN te.ks (hi-lo)++xs.drop hi)) ?_ ?_ (λzs hz=>by cases hz) (w':=w.setRow (c.P n).blk new) ⟨#[],rfl,rfl,λj agg xs hj=>by simp at hj⟩ (λn hn=>by simp[cw]at hn) (λb _ N3=>oG b (λe=>N3 (.inl ⟨iR,e⟩))) (by simp[iZ]) rfl rfl rfl (.inl (exec hr))
       ·refine⟨⟨te,JB,fH,p9⟩,⟨?_,λhn=>(by rw[iR]at hn;cases hn),λ_=>⟨new,Dw,k2,k3,by rw[anZ];exact k4,λi y j x kZ hj=> ?_⟩⟩,λ_=>⟨λi j hh=>cE hh (sM p9 rP),λi j i' j' hh=>cE hh (sM p9 rP)⟩⟩
        ·rw[fG.n];simp[aN];omega
        ·have hl:=gJ rP (p9 y (aP kZ)) hj;have js:j<te.ks.length:=by rw[<-p9 y (aP kZ),bN];exact(aT.1 hj).1
         have toR:∀u,Sc u x->(if ex=ai then XC E (w.setRow (c.P n).blk new) (c.G n) i j u x else cT E (w.setRow (c.P n).blk new) c.K u x):=by
          intro u hu;split
          ·exact tB hl hu
          ·exact jx hl hu
         rw[GP v1 hle JD]at kZ;rw[afO,hml];by_cases hq:lo<=i/\i<hi
         ·rw[bw hq]at kZ;obtain⟨afR,k,hk1,rfl⟩:=tF kZ hj;have h2:(i-lo+1)*te.ks.length<=(hi-lo)*te.ks.length:=bY _ afR;have h3:i*te.ks.length=lo*te.ks.length+(i-lo)*te.ks.length:=by rw[<-c7];congr 1;omega
          rw[c7]at h2;rw[fH,bw (by omega)];refine⟨im k, ?_,toR _ ?_⟩
          ·have:=lk (n:=hi-lo) afR hk1;rw[cF,<-this];congr 1;omega
          ·have U2:=bu.1 rP k (aP hk1);cases k<;>first|exact⟨rfl,trivial⟩|exact⟨rfl,bz _⟩|cases U2
         ·rw[bH hq]at kZ;obtain⟨u,rA,CG⟩:=k5 i y j x kZ hj;refine⟨u, ?_,toR u ?_⟩
          ·rw[bH ?_];exact rA;rw[fH];by_cases Be:i<lo
           ·have:(i+1)*te.ks.length<=lo*te.ks.length:=bY _ Be;rw[c7]at this;omega
           ·have:hi*te.ks.length<=i*te.ks.length:=bY _ (by omega);have h3:hi*te.ks.length=lo*te.ks.length+(hi-lo)*te.ks.length:=by rw[<-c7];congr 1;omega
            omega
          ·split at CG
           ·exact tE CG hl
           ·exact oF CG hl
       ·rintro b (hb|⟨_,i,j,hh,_⟩)
        ·exact .inl hb
        ·exact cE hh (sM p9 rP)
      ·omega
    unfold P5 at h2;cases v with
    |nl=>obtain rfl:=aD h2;exact fL b7 dp hd sv (λn hn=>by simp[cw]at hn) (aj _ _ ev)
    |own n=>
     obtain⟨ob,hg,h2⟩:=Rd.bind_some h2;have hg:=c9 hg;cases ob with
     |row e' ex xs=>obtain⟨te,q1,h2⟩:=Rd.bind_some h2;obtain⟨q2,h2⟩:=cy h2;obtain rfl:=aD h2;simp only[aJ]at q2;have:=aR q2.1;subst this;have ev:a.eval x=kY (c.P n):=ev;have:=main n ex xs 0 xs.length te hg (dH q1) q2.2 (by rw[ev];exact vf b7 hg);simpa using this
     |_=>simp at h2
    |vw n lo hi=>
     obtain⟨ob,hg,h2⟩:=Rd.bind_some h2;have hg:=c9 hg;cases ob with
     |row e' ex xs=>obtain⟨te,q1,h2⟩:=Rd.bind_some h2;obtain⟨q2,h2⟩:=cy h2;obtain rfl:=aD h2;simp only[aJ]at q2;have:=aR q2.1;subst this;exact main n ex xs lo hi te hg (dH q1) q2.2 ev
     |_=>simp at h2
    |_=>simp at h2
   |_=>simp at h
  ·simp at h
 ·simp at h
end
end Go.FG

namespace Go.FG
def jJ(D:ay (aE×Obj)):ay (aE×eA):=D.map λd=>(cR d.1, .o d.2)
def tG(D:ay (aE×Obj))(m:aE):Prop:=∃x,(m,x)∈D
theorem Xn:∀(D:ay (aE×Obj)) (σ:St),(∀m,(wr σ (jJ D) (cR m)=σ (cR m)/\¬tG D m)\/∃x,(m,x)∈D/\wr σ (jJ D) (cR m)= .o x)/\∀m,slot (wr σ (jJ D)) m=slot σ m:=by
 intro D;induction D with
 |nil=>intro σ;exact⟨λm=> .inl ⟨rfl,λ⟨x,hx⟩=>by cases hx⟩,λm=>rfl⟩
 |cons d D ih=>
  intro σ;obtain⟨n,x⟩:=d;obtain⟨h1,h2⟩:=ih (oe σ (cR n) (.o x));refine⟨λm=> ?_,λm=> ?_⟩
  ·show(wr (oe σ (cR n) (.o x)) (jJ D) (cR m)=_/\_)\/∃y,_/\wr (oe σ (cR n) (.o x)) (jJ D) (cR m)=_;rcases h1 m with ⟨q1,q2⟩|⟨y,q1,q2⟩
   ·rw[nY]at q1;by_cases hm:m=n
    ·subst hm;exact .inr ⟨x,by simp,by rw[q1,bw rfl]⟩
    ·refine .inl ⟨by rw[q1,bH hm],λ⟨y,hy⟩=> ?_⟩;rcases cz.1 hy with hy|hy
     ·cases hy;exact hm rfl
     ·exact q2 ⟨y,hy⟩
   ·exact .inr ⟨y,cU _ q1,q2⟩
  ·show slot (wr (oe σ (cR n) (.o x)) (jJ D)) m=_;rw[h2,iz]
section
variable {P:cM} {E:fm} {σ:St} {a:Act} {w:bD} {c:eJ} {o:eV} {nm:aE} {e:rW}
theorem GN(b7:Ok E σ w c)(dp:eS E σ a w c){o:eV}(hd:∀d,o.dst=ah d->d<a.tmps.size){D:ay (aE×Obj)}{s:SV}{v:bf}{w':bD}{c':eJ}
  (hA:ji σ c c')
  (mh:∀n x,(n,x)∈D->o7 E w' c' n x)
  (pd:∀n x b,(n,x)∈D->e8 c' n x b->(jA (tG D) σ c b\/w.heap.size<=b)/\¬c'.K b)
  (QD:∀n x n' x' b,(n,x)∈D->(n',x')∈D->e8 c' n x b->e8 c' n' x' b->n=n')
  (He:∀n xs,(n,Obj.box xs)∈D->∀a∈xs,∀m∈bE a,σ (cR m)≠ .jq\/tG D m)
  (hK:∀b,c.K b->c'.K b) (TH:∀b,c'.K b->c.K b\/jA (tG D) σ c b\/w.heap.size<=b) (E4:∀b,c'.K b->b<w'.heap.size)
  (hW:∀b,b<w.heap.size->¬jA (tG D) σ c b->w'.heap[b]? =w.heap[b]?) (fH:w.heap.size<=w'.heap.size) (M8:w'.os=w.os) (U8:w'.tape=w.tape) (U1:w'.output=w.output)
  (wN:iW E w' c' s v) (zE:∀n∈cw s,σ (cR n)≠ .jq\/tG D n):
  Ok E (wr σ (jJ D++dw o s)) w' c'/\eS E (wr σ (jJ D++dw o s)) (a.put o.dst v) w' c'/\nO σ c w (wr σ (jJ D++dw o s)) c' w':=by
 rw[NN];obtain⟨d1,d2⟩:=Xn D σ;let σ1:=wr σ (jJ D);obtain⟨s1,s2,s3⟩:=pn σ1 o s;have key:∀m,(wr σ1 (dw o s) (cR m)=σ (cR m)/\¬tG D m)\/∃x,(m,x)∈D/\wr σ1 (dw o s) (cR m)= .o x:=λm=>by rw[s3];exact d1 m
 have il:∀m,(σ (cR m)≠ .jq\/tG D m)->wr σ1 (dw o s) (cR m)≠ .jq:=by
  intro m hm;rcases key m with ⟨h1,h2⟩|⟨x,_,h2⟩
  ·rw[h1];exact hm.resolve_right h2
  ·rw[h2];simp
 have get:∀m x,tG D m->wr σ1 (dw o s) (cR m)= .o x->(m,x)∈D:=by
  intro m x hm hx;rcases key m with ⟨_,h2⟩|⟨y,h1,h2⟩
  ·exact cE hm h2
  ·rw[h2]at hx;cases hx;exact h1
 have hh:=b7.change (σ':=wr σ1 (dw o s)) (w':=w') (c':=c') (tG D) (λm hm=>(key m).elim (λh=>h.1) (λ⟨x,h1,_⟩=>cE ⟨x,h1⟩ hm)) (λm hm=>il m (.inl hm)) hA hW fH hK TH E4
  (λm x hm ho=>mh m x (get m x hm ho)) (λm x b hm ho hf=>pd m x b (get m x hm ho) hf) (λm x m' x' b hm uZ ho uj hf vZ=>QD m x m' x' b (get m x hm ho) (get m' x' uZ uj) hf vZ)
  (λm xs hm ho y hy n j5=>il n (He m xs (get m _ hm ho) y hy n j5)) M8 U8 U1
 refine⟨hh.1, ?_,hh.2⟩
 refine dp.change b7 hh.2 hA (λm hm=>il m (.inl hm)) o v (λn j5=>by rw[s1 n j5];exact d2 n) (λd ho=>⟨hd d ho, ?_, ?_⟩)
 ·rw[s2 d ho];exact wN
 ·rw[s2 d ho];intro n j5;exact il n (zE n j5)
theorem Jr(b7:Ok E σ w c)(dp:eS E σ a w c){o:eV}(hd:∀d,o.dst=ah d->d<a.tmps.size){D:ay (aE×Obj)}{s:SV}{v:bf}{w':bD}{c':eJ}
  (hA:ji σ c c')
  (mh:∀n x,(n,x)∈D->o7 E w' c' n x)
  (pd:∀n x b,(n,x)∈D->e8 c' n x b->(jA (tG D) σ c b\/w.heap.size<=b)/\¬c'.K b)
  (QD:∀n x n' x' b,(n,x)∈D->(n',x')∈D->e8 c' n x b->e8 c' n' x' b->n=n')
  (He:∀n xs,(n,Obj.box xs)∈D->∀a∈xs,∀m∈bE a,σ (cR m)≠ .jq\/tG D m)
  (hK:∀b,c.K b->c'.K b) (TH:∀b,c'.K b->c.K b\/jA (tG D) σ c b\/w.heap.size<=b) (E4:∀b,c'.K b->b<w'.heap.size)
  (hW:∀b,b<w.heap.size->¬jA (tG D) σ c b->w'.heap[b]? =w.heap[b]?) (fH:w.heap.size<=w'.heap.size) (M8:w'.os=w.os) (U8:w'.tape=w.tape) (U1:w'.output=w.output)
  (wN:iW E w' c' s v) (zE:∀n∈cw s,σ (cR n)≠ .jq\/tG D n)
  (hr:(execOp a.eval o).run P w= .ok (.value v) w'):gC P E σ a w c o (jJ D++dw o s):=by intro K Q hQ;obtain⟨h1,h2,h3⟩:=GN b7 dp hd hA mh pd QD He hK TH E4 hW fH M8 U8 U1 wN zE;exact wE hr (hQ v w' c' h1 h2 h3 hA.w)
def Ai(σ:St)(c:eJ)(m:aC aE)(u:bf):CV->Prop
 | .l e ys=>(m=aj/\ys=[]/\u= .slice aj 0 0)\/∃nm,m=ah nm/\u=kY (c.P nm)/\σ (cR nm)= .o (.row e ai ys)
 |x=>Sc u x
def Di(L:ay aE):ay (aE×Obj):=L.map λn=>(n, .dead)
theorem AX(L:ay aE):nJ L=jJ (Di L):=by unfold nJ jJ Di;rw[lH];rfl
theorem UE{k:Ck}{x:AV}{cv:CV}{ws:ay (aE×eA)}(h:(GW ai k x).val σ=ah (cv,ws)):
  cv.kd=k/\∃m:aC aE,ws=nJ m.toList/\(∀nm,m=ah nm->∃ob,σ (cR nm)= .o ob)/\∀u,ea E w c x u->Ai σ c m u cv:=by
 have pl:plain [k]=ai->cv.kd=k/\∃m:aC aE,ws=nJ m.toList/\(∀nm,m=ah nm->∃ob,σ (cR nm)= .o ob)/\∀u,ea E w c x u->Ai σ c m u cv:=by
  intro hp;have Y_:cv.kd=k/\ws=[]:=by
   cases k<;>cases x<;>simp[GW,plain]at h hp<;>first
    |(obtain⟨rfl,rfl⟩:=h;exact⟨rfl,rfl⟩)
    |(split at h<;>simp at h;rename_i hk;subst hk;obtain⟨rfl,rfl⟩:=h;exact⟨rfl,rfl⟩)
  refine⟨Y_.1,aj,Y_.2,λnm h=>(by cases h),λu hu=> ?_⟩
  obtain⟨_,h2,h3,_⟩:=xZ hp h hu;cases cv<;>first|exact h2|simp[tf]at h3
 cases k with
 |i=>exact pl rfl
 |b=>exact pl rfl
 |s=>exact pl rfl
 |o=>cases x<;>simp[GW]at h
 |l e=>
  cases x with
  |nl=>obtain⟨rfl,rfl⟩:=bS (aD h);exact⟨rfl,aj,rfl,λnm h=>(by cases h),λu hu=> .inl ⟨rfl,rfl,hu⟩⟩
  |sh e' xs=>simp[GW]at h
  |own n=>
   obtain⟨ob,hg,h⟩:=Rd.bind_some h;have hg:=c9 hg;cases ob with
   |row e' tc xs=>obtain⟨h1,h⟩:=cy h;obtain⟨rfl,rfl⟩:=bS (aD h);simp only[aJ]at h1;have:=aR h1.1;subst this;obtain rfl:=h1.2;exact⟨rfl,ah n,rfl,λnm h=>(by cases h;exact⟨_,hg⟩),λu hu=> .inr ⟨n,rfl,hu,hg⟩⟩
   |fE=>simp at h
   |_=>simp at h
  |_=>simp[GW]at h
theorem P9:∀{ks:ay Ck} {xs:ay AV} {cs:ay CV} {ws:ay (aE×eA)} (h:(x_ ai ks xs).val σ=ah (cs,ws)),cs.map CV.kd=ks/\xs.length=ks.length/\∃(L:ay aE) (M:aE->aC aE),ws=nJ L/\
  (∀nm∈L,∃ob,σ (cR nm)= .o ob)/\(∀j nm,M j=ah nm->nm∈L)/\(L.Nodup->∀i j nm,M i=ah nm->M j=ah nm->i=j)/\
  ∀(vals:c_ bf),fD E w c vals xs->∀(q:aE) (x:CV),cs[q]? =ah x->∃u:bf,vals[q]? =ah u/\Ai σ c (M q) u x:=by
 intro ks;induction ks with
 |nil=>
  intro xs cs ws h;cases xs with
  |nil=>obtain⟨rfl,rfl⟩:=bS (aD h);exact⟨rfl,rfl,[],λ_=>aj,rfl,λnm h=>(by cases h),λj nm h=>(by cases h),λ_ i j nm h=>(by cases h),λ_ _ q x hq=>by simp at hq⟩
  |cons=>simp[x_]at h
 |cons k ks ih=>
  intro xs cs ws h;cases xs with
  |nil=>simp[x_]at h
  |cons x xs=>
   obtain⟨⟨cv,w1⟩,h1,h⟩:=Rd.bind_some h;obtain⟨⟨cr,w2⟩,h2,h⟩:=Rd.bind_some h;obtain⟨rfl,rfl⟩:=bS (aD h);obtain⟨e1,m,rfl,e2,e3⟩:=UE (E:=E) (w:=w) (c:=c) h1;obtain⟨i1,i2,L,M,rfl,i4,i5,i6,i7⟩:=ih h2;refine⟨by simp[e1,i1],by simp[i2],m.toList++L,λj=>match j with|0=>m|j+1=>M j,by simp[nJ], ?_, ?_, ?_, ?_⟩
   ·intro nm Yn;rcases a_.1 Yn with h|h
    ·exact e2 nm (by simpa using h)
    ·exact i4 nm h
   ·intro j nm hj;cases j with
    |zero=>exact bU _ (by simpa using hj)
    |succ j=>exact bK _ (i5 j nm hj)
   ·intro Hh i j nm hi hj;obtain⟨n1,n2,n3⟩:=dY.1 Hh;cases i with
    |zero=>
     cases j with
     |zero=>rfl
     |succ j=>exact cE rfl (n3 nm (by simpa using hi) nm (i5 j nm hj))
    |succ i=>
     cases j with
     |zero=>exact cE rfl (n3 nm (by simpa using hj) nm (i5 i nm hi))
     |succ j=>rw[i6 n2 i j nm hi hj]
   ·intro vals hv q y hq;cases q with
    |zero=>cases hq;obtain⟨u,hu,ha⟩:=hv.2 0 x rfl;exact⟨u,hu,e3 u ha⟩
    |succ q=>
     have Lp:fD E w c (vals.extract 1 vals.size) xs:=by
      refine⟨by simp;have:=hv.1;simp at this;omega,λj b hj=> ?_⟩
      obtain⟨u,hu,hb⟩:=hv.2 (j+1) b hj;refine⟨u, ?_,hb⟩
      have:=(dL.1 hu).1;rw[dS,bw (by omega),iN];exact hu
     obtain⟨u,r1,r2⟩:=i7 _ Lp q y hq;refine⟨u, ?_,r2⟩
     rw[dS]at r1;split at r1
     ·rw[iN];exact r1
     ·cases r1
theorem Jc{k:Ck}{x:AV}{cv:CV}{ws:ay (aE×eA)}(b7:Ok E σ w c)(h:(GW ak k x).val σ=ah (cv,ws)):cv.kd=k/\ws=[]/\∀u,ea E w c x u->cT E w c.K u cv:=by
 have pl:plain [k]=ai->cv.kd=k/\ws=[]/\∀u,ea E w c x u->cT E w c.K u cv:=by
  intro hp;have Y_:cv.kd=k/\ws=[]:=by
   cases k<;>cases x<;>simp[GW,plain]at h hp<;>first
    |(obtain⟨rfl,rfl⟩:=h;exact⟨rfl,rfl⟩)
    |(split at h<;>simp at h;rename_i hk;subst hk;obtain⟨rfl,rfl⟩:=h;exact⟨rfl,rfl⟩)
  refine⟨Y_.1,Y_.2,λu hu=> ?_⟩
  obtain⟨_,h2,h3,_⟩:=xZ hp h hu;exact jx h3 h2
 cases k with
 |i=>exact pl rfl
 |b=>exact pl rfl
 |s=>exact pl rfl
 |o=>cases x<;>simp[GW]at h
 |l e=>
  cases x with
  |nl=>obtain⟨rfl,rfl⟩:=bS (aD h);exact⟨rfl,rfl,λu hu=>by rw[show u=_ from hu];exact .nl _ _ _⟩
  |sh e' xs=>obtain⟨h1,h⟩:=cy h;obtain⟨rfl,rfl⟩:=bS (aD h);simp only[aJ]at h1;have:=aR h1.1;subst this;exact⟨rfl,rfl,λu hu=>hu⟩
  |own n=>
   obtain⟨ob,hg,h⟩:=Rd.bind_some h;have hg:=c9 hg;cases ob with
   |row e' tc xs=>obtain⟨h1,h⟩:=cy h;simp at h
   |fE e' xs=>
    obtain⟨h1,h⟩:=cy h;obtain⟨rfl,rfl⟩:=bS (aD h);simp only[aJ]at h1;have:=aR h1.1;subst this;refine⟨rfl,rfl,λu hu=> ?_⟩
    have hu:u=kY (c.P n):=hu;rw[hu];exact(b7.obj n _ hg).1
   |_=>simp at h
  |_=>simp[GW]at h
theorem GX(b7:Ok E σ w c):∀{ks:ay Ck} {xs:ay AV} {cs:ay CV} {ws:ay (aE×eA)} (h:(x_ ak ks xs).val σ=ah (cs,ws)),cs.map CV.kd=ks/\xs.length=ks.length/\ws=[]/\
  ∀(vals:c_ bf),fD E w c vals xs->∀(q:aE) (x:CV),cs[q]? =ah x->∃u:bf,vals[q]? =ah u/\cT E w c.K u x:=by
 intro ks;induction ks with
 |nil=>
  intro xs cs ws h;cases xs with
  |nil=>obtain⟨rfl,rfl⟩:=bS (aD h);exact⟨rfl,rfl,rfl,λ_ _ q x hq=>by simp at hq⟩
  |cons=>simp[x_]at h
 |cons k ks ih=>
  intro xs cs ws h;cases xs with
  |nil=>simp[x_]at h
  |cons x xs=>
   obtain⟨⟨cv,w1⟩,h1,h⟩:=Rd.bind_some h;obtain⟨⟨cr,w2⟩,h2,h⟩:=Rd.bind_some h;obtain⟨rfl,rfl⟩:=bS (aD h);obtain⟨e1,e2,e3⟩:=Jc b7 h1;obtain⟨i1,i2,i3,i7⟩:=ih h2;refine⟨by simp[e1,i1],by simp[i2],by rw[e2,i3];rfl,λvals hv q y hq=> ?_⟩
   cases q with
   |zero=>cases hq;obtain⟨u,hu,ha⟩:=hv.2 0 x rfl;exact⟨u,hu,e3 u ha⟩
   |succ q=>
    have Lp:fD E w c (vals.extract 1 vals.size) xs:=by
     refine⟨by simp;have:=hv.1;simp at this;omega,λj b hj=> ?_⟩
     obtain⟨u,hu,hb⟩:=hv.2 (j+1) b hj;refine⟨u, ?_,hb⟩
     have:=(dL.1 hu).1;rw[dS,bw (by omega),iN];exact hu
    obtain⟨u,r1,r2⟩:=i7 _ Lp q y hq;refine⟨u, ?_,r2⟩
    rw[dS]at r1;split at r1
    ·rw[iN];exact r1
    ·cases r1
end
end Go.FG

namespace Go.FG
section
variable {P:cM} {E:fm} {σ:St} {a:Act} {w:bD} {c:eJ} {o:eV} {nm:aE} {e:rW}
structure Inv (E:fm) (σ:St) (w:bD) (c:eJ) (ex:aW) (ks:ay Ck) (vals:c_ bf) (z:aU) (N:aE->aE->aC aE) (S:ay aE):Prop where
 size:vals.size=z.length*ks.length
 sh:∀y∈z,y.map CV.kd=ks
 inS:∀i j nm,N i j=ah nm->nm∈S
 inj:∀i j i' j' nm,N i j=ah nm->N i' j'=ah nm->i=i'/\j=j'
 cell:∀(i:aE) (y:ay CV) (j:aE) (x:CV),z[i]? =ah y->y[j]? =ah x->∃u:bf,vals[i*ks.length+j]? =ah u/\(if ex=ai then Ai σ c (N i j) u x else cT E w c.K u x)
theorem Inv.set{ex:aW}{ks:ay Ck}{vals:c_ bf}{z:aU}{N:aE->aE->aC aE}{S:ay aE}(h:Inv E σ w c ex ks vals z N S){i0:aE}(hi:i0<z.length){cs:ay CV}{vs:c_ bf}(hk:cs.map CV.kd=ks)(QG:vs.size=ks.length)
  {M:aE->aC aE} {L:ay aE} (hM:∀j nm,M j=ah nm->nm∈L) (hMi:∀i j nm,M i=ah nm->M j=ah nm->i=j) (hd:∀nm∈L,nm∉S)
  (hc:∀(q:aE) (x:CV),cs[q]? =ah x->∃u:bf,vs[q]? =ah u/\(if ex=ai then Ai σ c (M q) u x else cT E w c.K u x)):
  Inv E σ w c ex ks (dQ vals (i0*ks.length) vs.toList) (z.set i0 cs) (λi j=>if i=i0 then M j else N i j) (S++L):=by
 have h1:(i0+1)*ks.length<=z.length*ks.length:=bY _ hi;rw[c7]at h1;have hb:i0*ks.length+vs.toList.length<=vals.size:=by rw[h.size,show vs.toList.length=ks.length from QG];omega
 refine⟨by rw[eN hb,cm];exact h.size, ?_, ?_, ?_, ?_⟩
 ·intro y hy;rcases je hy with hy|hy
  ·exact h.sh y hy
  ·rw[hy];exact hk
 ·intro i j nm hn;replace hn:(if i=i0 then M j else N i j)=ah nm:=hn;split at hn
  ·exact bK _ (hM j nm hn)
  ·exact bU _ (h.inS i j nm hn)
 ·intro i j i' j' nm hn j5;replace hn:(if i=i0 then M j else N i j)=ah nm:=hn;replace j5:(if i'=i0 then M j' else N i' j')=ah nm:=j5;split at hn
  ·rename_i e1;split at j5
   ·rename_i e2;exact⟨e1.trans e2.symm,hMi j j' nm hn j5⟩
   ·exact cE (h.inS i' j' nm j5) (hd nm (hM j nm hn))
  ·split at j5
   ·exact cE (h.inS i j nm hn) (hd nm (hM j' nm j5))
   ·exact h.inj i j i' j' nm hn j5
 ·intro i y j x hy hx;rw[NR]at hy;rw[f_ hb,show vs.toList.length=ks.length from QG];by_cases Hc:i0=i
  ·subst Hc;rw[bw rfl,bw hi]at hy;cases hy;have hj:j<ks.length:=by rw[<-hk,bN];exact(aT.1 hx).1
   obtain⟨u,hu,hr⟩:=hc j x hx;refine⟨u, ?_,by simpa using hr⟩
   rw[bw (by omega),cF,<-hu];congr 1;omega
  ·rw[bH Hc]at hy;obtain⟨u,hu,hr⟩:=h.cell i y j x hy hx;have hj:j<ks.length:=by rw[<-h.sh y (aP hy),bN];exact(aT.1 hx).1
   refine⟨u, ?_,by rw[show(if i=i0 then M j else N i j)=N i j from bH (λe=>Hc e.symm)];exact hr⟩
   rw[bH ?_];exact hu;rcases NU Hc with jt|hgt
   ·have:(i0+1)*ks.length<=i*ks.length:=bY _ jt;rw[c7]at this;omega
   ·have:(i+1)*ks.length<=i0*ks.length:=bY _ hgt;rw[c7]at this;omega
theorem MN(b7:Ok E σ w c)(dp:eS E σ a w c){ex:aW}{ks:ay Ck}(kC:0<ks.length):∀(ps:ay (aE×da)) (z z':aU) (ws:ay (aE×eA)),(Jb ex ks ps z).val σ=ah (z',ws)->
  z'.length=z.length/\∃L,ws=nJ L/\(∀nm∈L,∃ob,σ (cR nm)= .o ob)/\∀vals N S,(S++L).Nodup->Inv E σ w c ex ks vals z N S->
   ∃iQ N',oP (λi=>ah (i*ks.length,ks.length)) vals (ps.map λ(i,x)=>(i,a.eval x))=ah iQ/\Inv E σ w c ex ks iQ z' N' (S++L):=by
 intro ps;induction ps with
 |nil=>intro z z' ws h;obtain⟨rfl,rfl⟩:=bS (aD h);exact⟨rfl,[],rfl,λnm h=>(by cases h),λvals N S _ hi=>⟨vals,N,rfl,by rw[dN];exact hi⟩⟩
 |cons p r ih=>
  obtain⟨i0,x⟩:=p;intro z z' ws h;obtain⟨v,h1,h⟩:=Rd.bind_some h;obtain⟨M9,hkv⟩:=lL dp h1;cases v with
  |v g ys=>
   obtain⟨h2,h⟩:=cy h;have h2:=cD h2;obtain⟨⟨cs,w1⟩,h3,h⟩:=Rd.bind_some h;obtain⟨⟨z1,w2⟩,h4,h⟩:=Rd.bind_some h;obtain⟨rfl,rfl⟩:=bS (aD h);have nM:=pD.cells M9
   have GW:cs.map CV.kd=ks/\ys.length=ks.length/\∃(L:ay aE) (M:aE->aC aE),w1=nJ L/\(∀nm∈L,∃ob,σ (cR nm)= .o ob)/\(∀j nm,M j=ah nm->nm∈L)/\(L.Nodup->∀i j nm,M i=ah nm->M j=ah nm->i=j)/\
     ∀(q:aE) (x:CV),cs[q]? =ah x->∃u:bf,(a.eval ‹da›).cells[q]? =ah u/\(if ex=ai then Ai σ c (M q) u x else cT E w c.K u x):=by
    cases ex with
    |true=>obtain⟨q1,q2,L,M,q3,q4,q5,q6,q7⟩:=P9 (E:=E) (w:=w) (c:=c) h3;exact⟨q1,q2,L,M,q3,q4,q5,q6,λq x hq=>by simpa using q7 _ nM q x hq⟩
    |false=>obtain⟨q1,q2,q3,q4⟩:=GX b7 h3;exact⟨q1,q2,[],λ_=>aj,q3,λnm h=>(by cases h),λj nm h=>(by cases h),λ_ i j nm h=>(by cases h),λq x hq=>by simpa using q4 _ nM q x hq⟩
   obtain⟨q1,q2,L,M,rfl,q4,q5,q6,q7⟩:=GW;obtain⟨i1,L2,rfl,i3,i4⟩:=ih _ _ _ h4;rw[cm]at i1;refine⟨i1,L++L2,by simp[nJ],λnm hn=>(a_.1 hn).elim (q4 nm) (i3 nm),λvals N S Hh hinv=> ?_⟩
   have af2:((S++L)++L2).Nodup:=by rw[ch];exact Hh
   obtain⟨n1,n2,n3⟩:=dY.1 af2;obtain⟨m1,m2,m3⟩:=dY.1 n1;have QG:(a.eval x).cells.size=ks.length:=by rw[nM.1,q2]
   have afT:=hinv.set (i0:=i0) (by omega) q1 QG q5 (q6 m2) (λnm hn hs=>m3 nm hs nm hn rfl) q7;obtain⟨iQ,N',f1,f2⟩:=i4 _ _ _ af2 afT;refine⟨iQ,N', ?_,by rw[<-ch];exact f2⟩
   have h1:(i0+1)*ks.length<=z.length*ks.length:=bY _ h2;rw[c7,<-hinv.size]at h1;simp only[eW,oP];rw[bH (by simp[QG];omega)];have:=Dq (off:=i0*ks.length) (vs:=(a.eval x).cells) (cells:=vals) (by omega);rw[<-f1];exact kX (λq=>oP (λi=>ah (i*ks.length,ks.length)) q _) this
  |jE=>simp at h
  |un=>simp at h
theorem BN{t el n:aE}{inf:ID}{z:bf}{ks:ay Ck}{ps:c_ (aE×bf)}{cells:c_ bf}(hu:P.underlying t=ah (.slice el))(hi:P.info? el=ah inf)(fH:inf.size=ks.length)(hz:inf.zero=ah z)(hzc:z.cells=(ks.map im).toArray)
  (h24:n*ks.length<=16777216) (hf:oP (λi=>ah (i*ks.length,ks.length)) (madeCells (ks.map im).toArray (n*ks.length)) ps.toList=ah cells):
  (yP t n ps).run P w= .ok (.slice (ah (ad w.heap.size 0)) n n) (w.alloc (.cells cells el)):=by
 have ang:¬(n*ks.length>2^24):=by omega
 by_cases h0:n*ks.length=0
 ·have e0:(Array.range (n*ks.length)).map (λi=>(#[]:c_ bf)[i%(#[]:c_ bf).size]!)=madeCells (ks.map im).toArray (n*ks.length):=by rw[h0];simp[madeCells,Array.range_zero']
  simp only[yP,ca,run_underlying hu,bA,sizeOf,typeInfo,program,mH,hi,fH,cG,h0,if_true,mE];rw[h0]at e0 hf;rw[e0,hf];simp only[newRow,newObj,ca,mH,bA,cG];rfl
 ·have e0:(Array.range (n*ks.length)).map (λi=>z.cells[i%z.cells.size]!)=madeCells (ks.map im).toArray (n*ks.length):=by rw[hzc];rfl
  simp only[yP,ca,run_underlying hu,bA,sizeOf,typeInfo,program,mH,hi,fH,ang,if_false,cG,h0,zeroValue,hz,mE];rw[e0,hf];simp only[newRow,newObj,ca,mH,bA,cG];rfl
theorem qb:∀{l:ay aE},sI l=ai->l.Nodup
 |[],_=> .nil
 |n::r,h=>by
  simp only[sI,aJ,dz]at h;refine jY.2 ⟨λhm=> ?_,qb h.2⟩;have:lX n r=true:=by
   have:=h.1;clear h;induction r with
   |nil=>cases hm
   |cons m r ih=>
    rcases cz.1 hm with rfl|hm
    ·simp[lX]
    ·simp only[lX,ij]at this⊢;rw[ih hm this.2];simp
  rw[this]at h;cases h.1
theorem qS{α β:Type}{f:α->β}:∀{l:ay α},(l.map f).Nodup->l.Nodup
 |[],_=> .nil
 |x::l,h=>by
  rw[eW,jY]at h;exact jY.2 ⟨λhm=>h.1 (cO.2 ⟨x,hm,rfl⟩),qS h.2⟩
theorem UO{ks:ay Ck}(hf:flat E ks=ai){e:aE}(hm:Ck.l e∈ks):∃t,E.ty e=ah t/\plain t.ks=true:=by
 have h:=bu.1 hf _ hm;replace h:(match E.ty e with|some ti=>plain ti.ks|none=>ak)=true:=h;cases ht:E.ty e with
 |none=>rw[ht]at h;cases h
 |some t=>rw[ht]at h;exact⟨t,rfl,h⟩
theorem ND(b7:Ok E σ w c){n e:aE}{ex:aW}{xs:aU}(hg:σ (cR n)= .o (.row e ex xs)){t:TI}(ht:E.ty e=ah t)(hp:plain t.ks=ai):
  (c.P n).sz=t.ks.length/\(∀y∈xs,y.map CV.kd=t.ks)/\iP w (c.P n) xs (λ_ _ u x=>Sc u x):=by
 obtain⟨⟨t2,q1,q2,q3⟩,q4,_⟩:=b7.obj n _ hg;obtain rfl:t=t2:=aD (ht.symm.trans q1);refine⟨q2,q3,q4.frame (λ_=>rfl) (λi j y x u hi hj hr=> ?_)⟩
 have hl:=gJ hp (q3 y (aP hi)) hj;split at hr
 ·exact tE hr hl
 ·exact oF hr hl
theorem P0(b7:Ok E σ w c){ks:ay Ck}(hf:flat E ks=ai){m:aC aE}{G:aE->aE->Pl}{i j:aE}(hG:G i j=match m with|some n=>c.P n|none=>JL E ks i j){u:bf}{x:CV}(hx:ks[j]? =ah x.kd){w':bD}(hw:∀b,b<w.heap.size->(∃n,m=ah n/\b=(c.P n).blk)->w'.heap[b]? =w.heap[b]?)(h:Ai σ c m u x):XC E w' G i j u x:=by
 cases x with
 |l e ys=>
  obtain⟨t,ht,hp⟩:=UO hf (aP hx);rcases h with ⟨rfl,rfl,rfl⟩|⟨n,rfl,rfl,hg⟩
  ·refine⟨by rw[hG];rfl,t,ht,hp, ?_,λy hy=>(by cases hy),⟨by rw[hG];rfl,λ_=>⟨rfl,by rw[hG];rfl⟩,λhn=>by rw[hG]at hn;cases hn⟩⟩
   rw[hG];show(match ks[j]? with|some (.l e)=>(match E.ty e with|some t=>t.ks.length|none=>0)|_=>0)=_;rw[hx];simp only[CV.kd,ht]
  ·obtain⟨q1,q2,q3⟩:=ND b7 hg ht hp;refine⟨by rw[hG],t,ht,hp,by rw[hG];exact q1,q2, ?_⟩
   rw[hG];refine q3.frame (λhn=>hw _ (uJ.lt b7 ⟨n,_,hg, .inl ⟨hn,rfl⟩⟩) ⟨n,rfl,rfl⟩) (λ_ _ _ _ _ _ _ h=>h)
 |i=>exact h
 |b=>exact h
 |s=>exact h
theorem CL(hE:d_ P E)(b7:Ok E σ w c)(dp:eS E σ a w c)(hd:∀d,o.dst=ah d->d<a.tmps.size){t n:aE}{ps:c_ (aE×da)}(ho:o.op= .buildSlice t n ps)(h:(lE E nm o).val σ=ah e)(hc:e.cond=ai):gC P E σ a w c o e.ws:=by
 simp only[lE,ho]at h;obtain⟨ti,h1,h⟩:=Rd.bind_some h;have h1:=dH h1;split at h
 ·rename_i el td zE;obtain⟨te,h2,h⟩:=Rd.bind_some h;have h2:=dH h2;obtain⟨yq,h⟩:=cy h;obtain⟨ex0,_,h⟩:=Rd.bind_some h;obtain⟨⟨xs,ws⟩,h3,h⟩:=Rd.bind_some h;obtain⟨u,h4,h⟩:=Rd.bind_some h;obtain⟨hf,jt⟩:=j4 h4;obtain rfl:=aD h;simp only[aJ]at hc;obtain⟨h24,Hh⟩:=hc;have h24:=cD h24;have hu:=oA hE h1 td zE;obtain⟨inf,hi,fH,_,kC,hz⟩:=hE.info el te h2;obtain⟨z,Io,CJ,_⟩:=hz yq;have N1:(ex0&&flat E te.ks)=ai->flat E te.ks=true:=λh=>by simp only[aJ]at h;exact h.2
  generalize (ex0&&flat E te.ks)=ex at h3 N1⊢;obtain⟨hlen,L,rfl,hL,QB⟩:=MN (c:=c) b7 dp kC ps.toList _ _ _ h3;have Hh:L.Nodup:=by have:=qb Hh;unfold nJ at this;rw[lH]at this;exact qS this
  obtain⟨vals,N,afL,hinv⟩:=QB (madeCells (te.ks.map im).toArray (n*te.ks.length)) (λ_ _=>aj) [] (by simpa using Hh)
   ⟨by rw[size_madeCells];simp[aN],wF yq n,λi j nm h=>(by cases h),λi j i' j' nm h=>(by cases h),λi y j x hy hx=>by
    obtain⟨g9,k,hk,rfl⟩:=tF hy hx;refine⟨im k,lk g9 hk, ?_⟩
    have Yj:=bu.1 yq k (aP hk);split
    ·cases k with
     |l e=>exact .inl ⟨rfl,rfl,rfl⟩
     |o=>cases Yj
     |s=>exact⟨rfl,bz _⟩
     |_=>exact⟨rfl,trivial⟩
    ·exact Kn Yj⟩
  rw[gi]at hinv;have hr:=BN (P:=P) (w:=w) (n:=n) (ps:=ps.map λ(i,x)=>(i,a.eval x)) hu hi fH Io CJ h24 (by rw[zh];exact afL);have JD:xs.length=n:=by rw[hlen];simp[aN]
  let g:aE->aE->Pl:=λi j=>match N i j with|some m=>c.P m|none=>JL E te.ks i j
  let c':eJ:=⟨λm=>if m=nm then⟨ak,w.heap.size,0,n,n,te.ks.length⟩else c.P m,λm=>if m=nm then g else c.G m,c.K⟩
  have hP:c'.P nm=⟨ak,w.heap.size,0,n,n,te.ks.length⟩:=bw rfl;have hG:c'.G nm=g:=bw rfl;have hA:ji σ c c':=λm hm=>by
   have:m≠nm:=by rintro rfl;rcases hm with h|h;exact h hf;omega
   exact⟨bH this,bH this⟩
  have gN:∀i j,(g i j).nil=ak->∃m ob,N i j=ah m/\g i j=c.P m/\m∈L/\σ (cR m)= .o ob:=by
   intro i j hn;cases hm:N i j with
   |none=>simp only[g,hm]at hn;cases hn
   |some m=>obtain⟨ob,mh⟩:=hL m (hinv.inS i j m hm);exact⟨m,ob,rfl,by simp only[g,hm],hinv.inS i j m hm,mh⟩
  have inn:∀i j,ex=ai->fP xs i j->(g i j).nil=ak->∃m el2 ys,N i j=ah m/\g i j=c.P m/\m∈L/\σ (cR m)= .o (.row el2 ai ys)/\(c.P m).nil=false:=by
   rintro i j hex ⟨y,x,hy,hx,hl⟩ hn;obtain⟨m,ob,q1,q2,q3,q4⟩:=gN i j hn;obtain⟨u,_,hr⟩:=hinv.cell i y j x hy hx;rw[bw hex,q1]at hr;cases x with
   |l e2 ys=>
    rcases hr with ⟨h,_⟩|⟨m',h,_,hg⟩
    ·cases h
    ·cases h;exact⟨m,e2,ys,q1,q2,q3,hg,by rw[<-q2];exact hn⟩
   |i=>simp[tf]at hl
   |b=>simp[tf]at hl
   |s=>simp[tf]at hl
  have QH:∀b,b<w.heap.size->(w.alloc (.cells vals el)).heap[b]? =w.heap[b]? :=λb hb=>heap_alloc_old w _ b hb;have mem:∀m x,(m,x)∈Di L++[(nm,Obj.row el ex xs)]->(m∈L/\x= .dead)\/(m=nm/\x= .row el ex xs):=by
   intro m x hm;rcases a_.1 hm with hm|hm
   ·unfold Di at hm;obtain⟨q,hq,h⟩:=cO.1 hm;cases h;exact .inl ⟨hq,rfl⟩
   ·rw[aX]at hm;cases hm;exact .inr ⟨rfl,rfl⟩
  have hws:nJ L++(cR nm,eA.o (.row el ex xs))::dw o (.v ak [.own nm])=jJ (Di L++[(nm,Obj.row el ex xs)])++dw o (.v ak [.own nm]):=by rw[AX];unfold jJ;simp
  show gC P E σ a w c o (nJ L++(cR nm,eA.o (.row el ex xs))::dw o (.v ak [.own nm]));rw[hws];refine Jr b7 dp hd (c':=c') (w':=w.alloc (.cells vals el)) (v:= .slice (ah (ad w.heap.size 0)) n n) hA ?_ ?_ ?_ ?_ (λ_ h=>h) (λ_ h=> .inl h) (λb hb=>ig (b7.lt b hb) (by simp)) (λb hb _=>QH b hb) (by simp) rfl rfl rfl ?_ ?_ ?_
  ·intro m x hm;rcases mem m x hm with ⟨_,rfl⟩|⟨rfl,rfl⟩
   ·trivial
   ·refine⟨⟨te,h2,by rw[hP],hinv.sh⟩, ?_,λhex=> ?_⟩
    ·rw[hP,hG];refine⟨JD.symm,λhn=>(by cases hn),λ_=>⟨vals,mY.alloc w _ el,cu _, ?_, ?_,λi y j x hy hx=> ?_⟩⟩
     ·show n<=2^63-1;have:n*1<=n*te.ks.length:=Nat.mul_le_mul_left _ kC;omega
     ·rw[hinv.size,JD];simp
     ·obtain⟨u,rA,CG⟩:=hinv.cell i y j x hy hx;refine⟨u,by simpa using rA, ?_⟩
      split at CG
      ·rename_i hex;rw[bw hex];refine P0 b7 (N1 hex) rfl ?_ (λb hb _=>QH b hb) CG;rw[<-hinv.sh y (aP hy),bF,hx];rfl
      ·rename_i hex;rw[bH hex];exact CG.frame (λb hb=>QH b (b7.lt b hb)) (λ_ h=>h)
    ·rw[hP,hG];refine⟨λi j hh hn _=> ?_,λi j i' j' hh vk hn j5 hbk=> ?_⟩
     ·obtain⟨m',e2,ys,_,q2,_,q4,q5⟩:=inn i j hex hh hn;have:(c.P m').blk<w.heap.size:=uJ.lt b7 ⟨m',_,q4, .inl ⟨q5,rfl⟩⟩;rw[q2];show(c.P m').blk≠w.heap.size;omega
     ·obtain⟨m1,e1,y1,p1,p2,_,p4,p5⟩:=inn i j hex hh hn;obtain⟨m2,e2,y2,r1,r2,_,r4,r5⟩:=inn i' j' hex vk j5;rw[p2,r2]at hbk;have:=b7.sep m1 _ m2 _ _ p4 r4 (.inl ⟨p5,rfl⟩) (.inl ⟨r5,hbk⟩);subst this;exact hinv.inj i j i' j' m1 p1 r1
  ·intro m x b hm pd;rcases mem m x hm with ⟨_,rfl⟩|⟨rfl,rfl⟩
   ·exact pd.elim
   ·rcases pd with ⟨_,rfl⟩|⟨hex,i,j,hh,hn,rfl⟩
    ·rw[hP];exact⟨.inr (cu _),λhk=>by have:=b7.lt _ hk;exact cE this (bm _)⟩
    ·rw[hG]at hn⊢;obtain⟨m',e2,ys,_,q2,q3,q4,q5⟩:=inn i j hex hh hn;rw[q2];refine⟨.inl ⟨m',_,⟨.dead,bU _ (cO.2 ⟨m',q3,rfl⟩)⟩,q4, .inl ⟨q5,rfl⟩⟩,b7.kk m' _ _ q4 (.inl ⟨q5,rfl⟩)⟩
  ·intro m x m' x' b hm uZ pd Qr;rcases mem m x hm with ⟨_,rfl⟩|⟨rfl,rfl⟩
   ·exact pd.elim
   ·rcases mem m' x' uZ with ⟨_,rfl⟩|⟨rfl,rfl⟩
    ·exact Qr.elim
    ·rfl
  ·intro m zs hm;rcases mem m _ hm with ⟨_,h⟩|⟨_,h⟩<;>cases h
  ·show _=kY (c'.P nm);rw[hP];rfl
  ·intro m hm;have:m=nm:=by simpa [cw,bE]using hm
   subst this;exact .inr ⟨_,bK _ (aX.2 rfl)⟩
  ·unfold execOp;rw[ho];exact iJ hr
 ·simp at h
end
end Go.FG

namespace Go.FG
section
variable {P:cM}
def lC(elem:TypeId)(size:aE)(base:aC Addr)(sLen sCap:aE)(s x:bf)(aN:aW)(n:aE)(GA:Sem (c_ bf)):Sem bf:=
 if sLen+n<=sCap then do
  let new<-GA
  if let ah a:=base then storeCells (a.add (sLen*size)) new.toList
  pure (.slice base (sLen+n) sCap)
 else do
  if((sLen+n:aE):az)>ao.max/\(aN\/(<-typeInfo elem).bytes=0)then runtimePanic (.error "growslice: len out of range")
  if F7 (sLen+n) sCap*(<-typeInfo elem).bytes>2^48 then(if aN then runtimePanic (.error "growslice: len out of range")else do
   if !(<-Builtin.mayShare size sLen n base x)then mark .noRoom
   unsupported (.resourceLimit "append: a slice or a string whose bytes no memory bears"))
  let JK<-choose (.appendCap (sLen+n) sCap elem)
  askRoom (JK*(<-typeInfo elem).bytes)
  let old<-eU size sLen s
  let new<-GA
  let rest:=fu (<-zeroValue elem).cells (JK-(sLen+n))
  pure (.slice (ah (<-newRow elem (old++new++rest))) (sLen+n) JK)
theorem yC{w:bD}{t u ty el:aE}{inf:ID}(hu:P.underlying t=ah (.slice el))(hi:P.info? el=ah inf)(hd:(∃e',P.underlying u=ah (.slice e'))\/P.underlying u=ah .string)
  {base:aC Addr} {sLen sCap m:aE} {x:bf} (hl:(oO x).run P w= .ok m w):
  (gZ #[t,u] ty #[.slice base sLen sCap,x]).run P w=(lC el inf.size base sLen sCap (.slice base sLen sCap) x ak m (eU inf.size m x)).run P w:=by
 have hs:(sizeOf el).run P w= .ok inf.size w:=by simp[sizeOf,typeInfo,hi]
 rcases hd with ⟨e',hd⟩|hd<;>
  (simp only[gZ,gV,rG,dD,ca,run_underlying hu,run_underlying hd,bA,hs,cG,hl,dg,if_false,bV,if_true,false_or,mE]
   unfold lC
   simp only[mE,ca,dg,if_false,false_or,cG]
   try rfl)
theorem BL{w:bD}{t u ty el:aE}{inf:ID}(hu:P.underlying t=ah (.slice el))(hi:P.info? el=ah inf){k:mG}(hd:P.underlying u=ah (.int k))
  {base:aC Addr} {sLen sCap m:aE} {x:bf} {k':mG} (hx:x= .int k' (m:az)) (h1:m<=9223372036854775807) (h2:m*inf.bytes<=140737488355328):
  (gZ #[t,u] ty #[.slice base sLen sCap,x]).run P w=(lC el inf.size base sLen sCap (.slice base sLen sCap) x ai m (if m*inf.size=0 then pure #[]else do pure (fu (<-zeroValue el).cells m))).run P w:=by
 have hs:(sizeOf el).run P w= .ok inf.size w:=by simp[sizeOf,typeInfo,hi]
 have ht:∀W,(typeInfo el).run P W= .ok inf W:=λW=>by simp[typeInfo,hi]
 have hw:ao.wrap (m:az)=m:=by rw[py];omega
 have c1:¬((m:az)<0):=by omega
 have c2:¬((m:az)*(inf.bytes:az)>2^48):=by
  have a2:((m*inf.bytes:aE):az)<=140737488355328:=by generalize m*inf.bytes=q at h2;omega
  rw[Ud]at a2;generalize (m:az)*(inf.bytes:az)=q at a2;have:(2:az)^48=281474976710656:=by decide
  omega
 subst hx;have ha:(asInt (.int k' (m:az))).run P w= .ok (m:az) w:=by simp[asInt,asIntOf]
 simp only[gZ,gV,rG,dD,ca,run_underlying hu,run_underlying hd,bA,hs,ht,ha,hw,c1,c2,cG,if_false,aY,dg,if_true,mE,dU];unfold lC;simp only[mE,ca,if_true,true_or,and_true,cG,ht,bA];try rfl
theorem CR{w w':bD}{el size sLen sCap m:aE}{a:Addr}{s x:bf}{zs:aW}{app:Sem (c_ bf)}{news:ay bf}(ha:app.run P w= .ok news.toArray w)(h:sLen+m<=sCap)(Jz:(storeCells (a.add (sLen*size)) news).run P w= .ok () w'):
  (lC el size (ah a) sLen sCap s x zs m app).run P w= .ok (.slice (ah a) (sLen+m) sCap) w':=by unfold lC;rw[bw h];simp only[ca,ha,bA,Jz,cG]
theorem CQ{w:bD}{el size sCap:aE}{s x:bf}{zs:aW}{app:Sem (c_ bf)}{news:ay bf}(ha:app.run P w= .ok news.toArray w):
  (lC el size aj 0 sCap s x zs 0 app).run P w= .ok (.slice aj 0 sCap) w:=by unfold lC;rw[bw (bz _)];simp only[ca,ha,bA,cG]
theorem CP{w:bD}{el size sLen sCap m:aE}{base:aC Addr}{s x:bf}{zs:aW}{app:Sem (c_ bf)}{oI news:ay bf}{inf:ID}{z:bf}(hi:P.info? el=ah inf)(hz:inf.zero=ah z)
  (h:¬sLen+m<=sCap) (h63:sLen+m<=9223372036854775807) (h48:(sLen+m)*inf.bytes<=140737488355328)
  (ho:(eU size sLen s).run P w.drew= .ok oI.toArray w.drew) (ha:app.run P w.drew= .ok news.toArray w.drew):
  (lC el size base sLen sCap s x zs m app).run P w= .ok (.slice (ah (ad w.heap.size 0)) (sLen+m) (grownCap w (sLen+m) sCap el))
   (w.drew.alloc (.cells (oI.toArray++news.toArray++fu z.cells (grownCap w (sLen+m) sCap el-(sLen+m))) el)):=by
 have ht:∀W,(typeInfo el).run P W= .ok inf W:=λW=>by simp[typeInfo,hi]
 have hzv:∀W,(zeroValue el).run P W= .ok z W:=λW=>by simp[zeroValue,typeInfo,hi,hz]
 have c1:¬(((sLen+m:aE):az)>ao.max/\(zs=ai\/inf.bytes=0)):=by
  have:ao.max=9223372036854775807:=by decide
  rintro ⟨h,_⟩;omega
 have c2:¬(F7 (sLen+m) sCap*inf.bytes>2^48):=by
  have:=growslice_fits (need:=sLen+m) (old:=sCap) (bytes:=inf.bytes) (by omega) h48;have e:2^48=281474976710656:=by decide
  omega
 have TK:(choose (.appendCap (sLen+m) sCap el)).run P w= .ok (grownCap w (sLen+m) sCap el) w.drew:=by rw[run_choose_drew];rfl
 have ank:∀n W,(askRoom n).run P W= .ok () W:=λn W=>by simp only[askRoom];split<;>simp
 have tV:∀cs,(newRow el cs).run P w.drew= .ok (ad w.heap.size 0) (w.drew.alloc (.cells cs el)):=λcs=>by simp only[newRow,newObj,ca,mH,bA,cG];rfl
 unfold lC;rw[bH h];simp only[ca,ht,bA,c1,c2,if_false,TK,ank,ho,ha,hzv,tV,cG,mE]
structure App (P:cM) (w:bD) (u:aE) (x:bf) (z:c_ bf) (sz m:aE) (news:ay bf):Prop where
 h:(((∃e',P.underlying u=ah (.slice e'))\/P.underlying u=ah .string)/\(oO x).run P w= .ok m w/\(eU sz m x).run P w= .ok news.toArray w/\(eU sz m x).run P w.drew= .ok news.toArray w.drew)\/
  ((∃k,P.underlying u=ah (.int k))/\(∃k',x= .int k' (m:az))/\news=(fu z m).toList)
 len:news.length=m*sz
 one:∀v∈news,v.oneCell'=ai
structure aaT (w w':bD) (p p':Pl) (m:aE) (news:ay bf):Prop where
 n:p'.n=p.n+m
 sz:p'.sz=p.sz
 nil:p'.nil=ai->p'.cap=0/\p.n=0/\m=0
 mem:p'.nil=ak->∃iQ,mY w' p'.blk iQ/\p'.n<=p'.cap/\p'.cap<=maxLen/\p'.off+p'.cap*p'.sz<=iQ.size/\
  (∀k u,k<p.n*p.sz->w.cell? (ad p.blk (p.off+k))=ah u->iQ[p'.off+k]? =ah u)/\(∀k,k<m*p.sz->iQ[p'.off+p.n*p.sz+k]? =news[k]?)
 blk:p'.nil=ak->(p.nil=ak/\p'.blk=p.blk)\/p'.blk=w.heap.size
 old:∀b,b<w.heap.size->(p'.nil=ak->b≠p'.blk)->w'.heap[b]? =w.heap[b]?
 size:w.heap.size<=w'.heap.size
 os:w'.os=w.os
 tape:w'.tape=w.tape
 output:w'.output=w.output
theorem sP{w:bD}{t u ty el:aE}{inf:ID}{z:bf}{p:Pl}{x:bf}{m:aE}{news:ay bf}(hu:P.underlying t=ah (.slice el))(hi:P.info? el=ah inf)(hz:inf.zero=ah z)(N6:z.cells.size=p.sz)(fH:inf.size=p.sz)
  (iR:p.nil=ai->p.n=0) (aca:p.nil=ak->∃vals,mY w p.blk vals/\p.n<=p.cap/\p.cap<=maxLen/\p.off+p.cap*p.sz<=vals.size)
  (hx:App P w u x z.cells p.sz m news) (h1:(p.n+m)*inf.bytes<=140737488355328) (h2:p.n+m<=9223372036854775807):
  ∃p' w',(gZ #[t,u] ty #[kY p,x]).run P w= .ok (kY p') w'/\aaT w w' p p' m news:=by
 have hmb:m*inf.bytes<=140737488355328:=c6 (bY _ (by omega)) h1;have hzv:∀W,(zeroValue el).run P W= .ok z W:=λW=>by simp[zeroValue,typeInfo,hi,hz]
 have hml:p.n+m<=maxLen:=by simp only[maxLen];omega
 have tail:∀(base:aC Addr) (sLen sCap:aE),∃(zs:aW) (app:Sem (c_ bf)),(gZ #[t,u] ty #[.slice base sLen sCap,x]).run P w=(lC el p.sz base sLen sCap (.slice base sLen sCap) x zs m app).run P w/\
   app.run P w= .ok news.toArray w/\app.run P w.drew= .ok news.toArray w.drew:=by
  intro base sLen sCap
  rcases hx.h with ⟨hd,hl,hf,hf2⟩|⟨⟨k,hk⟩,⟨k',hxv⟩,hn⟩
  ·have:=yC (P:=P) (w:=w) (ty:=ty) hu hi hd (base:=base) (sLen:=sLen) (sCap:=sCap) hl;rw[fH]at this;exact⟨_,_,this,hf,hf2⟩
  ·have:=BL (P:=P) (w:=w) (ty:=ty) hu hi hk (base:=base) (sLen:=sLen) (sCap:=sCap) hxv (by omega) hmb;rw[fH]at this;refine⟨_,_,this, ?_, ?_⟩
   ·rw[hn];split
    ·rename_i h0;have:fu z.cells m= #[]:=zg (by rw[size_zeroCells,N6,h0]);rw[this];rfl
    ·simp only[ca,hzv,bA,cG,sZ]
   ·rw[hn];split
    ·rename_i h0;have:fu z.cells m= #[]:=zg (by rw[size_zeroCells,N6,h0]);rw[this];rfl
    ·simp only[ca,hzv,bA,cG,sZ]
 have grow:∀(base:aC Addr) (sCap:aE) (oI:ay bf) (zs:aW) (app:Sem (c_ bf)),¬p.n+m<=sCap->oI.length=p.n*p.sz->(∀k u,k<p.n*p.sz->w.cell? (ad p.blk (p.off+k))=ah u->oI[k]? =ah u)->
   (eU p.sz p.n (.slice base p.n sCap)).run P w.drew= .ok oI.toArray w.drew->app.run P w.drew= .ok news.toArray w.drew->
   ∃p' w',(lC el p.sz base p.n sCap (.slice base p.n sCap) x zs m app).run P w= .ok (kY p') w'/\aaT w w' p p' m news:=by
  intro base sCap oI zs app hc Gc M9 hf ha
  have hr:=CP (P:=P) (w:=w) (size:=p.sz) (zs:=zs) (x:=x) (base:=base) hi hz hc h2 h1 hf ha
  refine⟨⟨ak,w.heap.size,0,grownCap w (p.n+m) sCap el,p.n+m,p.sz⟩,_,hr,⟨rfl,rfl,λh=>(by cases h),λ_=> ?_,λ_=> .inr rfl,λb hb _=>heap_alloc_old w.drew _ b hb,by simp,rfl,rfl,rfl⟩⟩
  have Yi:=grownCap_ge w (p.n+m) sCap el
  refine⟨_,⟨_,_,heap_alloc_new w.drew _,λq _=>by simp⟩,Yi,grownCap_le_maxLen w _ _ _ hml, ?_,λk u hk rA=> ?_,λk hk=> ?_⟩
  ·simp only[Array.size_append,Tv,size_zeroCells,N6,Gc,hx.len,<-c7,bT];exact bY _ (by omega)
  ·rw[bT,Mr,CU (by simpa [Gc]using hk),gV];exact M9 k u hk rA
  ·rw[bT,Mr,Array.getElem?_append_right (by simp[Gc]),CU (by simp[Gc,hx.len];omega),gV];congr 1;simp[Gc]
 cases hq:p.nil with
 |true=>
  have hn:=iR hq;rw[mg hq];obtain⟨zs,app,hr,ha,ha2⟩:=tail aj 0 0;rw[hr];by_cases hm:m=0
  ·subst hm;refine⟨⟨ai,0,0,0,0,p.sz⟩,w,CQ ha,⟨by simp[hn],rfl,λ_=>⟨rfl,hn,rfl⟩,λh=>(by cases h),λh=>(by cases h),λ_ _ _=>rfl,cu _,rfl,rfl,rfl⟩⟩
  ·have:=grow aj 0 [] zs app (by omega) (by simp[hn]) (λk u hk=>by rw[hn]at hk;simp at hk) (by rw[hn];exact run_firstCells_none _ _ _ _ _) ha2;rwa[hn]at this
 |false=>
  rw[eG hq];obtain⟨vals,hb,Qv,UX,mz⟩:=aca hq;obtain⟨zs,app,hr,ha,ha2⟩:=tail (ah (ad p.blk p.off)) p.n p.cap;rw[hr];have hle:p.n*p.sz<=p.cap*p.sz:=bY _ Qv;by_cases hc:p.n+m<=p.cap
  ·have uh:p.off+p.n*p.sz+news.length<=vals.size:=by have:(p.n+m)*p.sz<=p.cap*p.sz:=bY _ hc;rw[c7]at this;rw[hx.len];omega
   have Jz:=mW (P:=P) w hb uh hx.one;have hrr:=CR (P:=P) (s:= .slice (ah (ad p.blk p.off)) p.n p.cap) (x:=x) (el:=el) (size:=p.sz) (zs:=zs) ha hc (by rw[Addr.mK];exact Jz);refine⟨⟨ak,p.blk,p.off,p.cap,p.n+m,p.sz⟩,_,hrr,⟨rfl,rfl,λh=>(by cases h),λ_=>⟨_,hb.setRow (eN uh),hc,UX,by rw[eN uh];exact mz,λk u hk rA=> ?_,λk hk=> ?_⟩,λ_=> .inl ⟨hq,rfl⟩,λb _ N0=>setRow_other w _ b _ (N0 rfl),by simp[iZ],rfl,rfl,rfl⟩⟩
   ·show(dQ vals (p.off+p.n*p.sz) news)[p.off+k]? =ah u;rw[f_ uh,bH (by omega),<-hb.cell];exact rA
   ·show(dQ vals (p.off+p.n*p.sz) news)[p.off+p.n*p.sz+k]? =news[k]?;rw[f_ uh,bw (by rw[hx.len];omega)];congr 1;omega
  ·have hcell:∀k,k<p.n*p.sz->w.cell? (ad p.blk (p.off+k))=vals[p.off+k]? :=λk _=>hb.cell _;let oI:=(vals.toList.drop p.off).take (p.n*p.sz);have Gc:oI.length=p.n*p.sz:=by simp only[oI,er,eL,dm];omega
   have M9:∀k u,k<p.n*p.sz->w.cell? (ad p.blk (p.off+k))=ah u->oI[k]? =ah u:=λk u hk rA=>by rw[hcell k hk]at rA;simp only[oI,dR,bw hk,dJ,cF,rA]
   refine grow (ah (ad p.blk p.off)) p.cap oI zs app hc Gc M9 ?_ ha2;refine run_firstCells_some w.drew p.sz p.n _ _ _ oI Gc (λj v hj=> ?_);have js:j<p.n*p.sz:=by rw[<-Gc];exact(aT.1 hj).1
   simp only[oI,dR,bw js,dJ,cF]at hj;rw[Addr.mK];have:=hcell j js;rw[hj]at this;simpa using this
end
end Go.FG

