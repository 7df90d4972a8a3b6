/- An evaluator for the part of the language that this program uses, proved sound over the model: states told as values and lists; what an evaluation tells, the call does. No condition. -/
import Derived.Calls
import Derived.Orders
import Derived.Below
import Derived.Laws.AppendOwn
import Derived.Laws.Slices
import Derived.Laws.StructEq
import Derived.Laws.Tables
import Derived.Laws.MakeOwn
import Derived.Laws.IdiomStrings
import Derived.Laws.BytesArg
import Derived.Laws.NewFold
import Derived.SizedLaws
import Derived.Carry
import Derived.ProofKit
import Derived.KernelRfl
import Derived.Laws.Strings
set_option linter.unusedVariables false
set_option linter.unusedSimpArgs false
set_option maxRecDepth 100000
open Array renaming getElem?_eq_some_iff->dU,getD_eq_getD_getElem?->eP,getElem?_setIfInBounds->ov,toArray_toList->uk,getElem?_toList->cY,ext'->sH,length_toList->dR,toList_map->AD,getElem?_map->OM,getElem?_extract->ea,eq_empty_of_size_eq_zero->AB,append_assoc->OK,getElem?_append_left->Eo
open BitVec renaming ofInt->ca
open Bool renaming false->ak,true->ai,false_eq_true->dx,and_eq_true->aL,not_eq_true'->dr,and_assoc->nS,or_eq_false_iff->iJ,not_false->bR,not_true->a_
open ByteArray renaming size_extract->yJ,size_append->dJ,empty->HV,size->cm
open Go renaming IntKind->nA,Value->bk,Operand->dy,Oper->fC,World->bL,Program->c5,TypeInfo->Kr
open Go.Act renaming put->Wf,eval->Ia
open Go.Builtin renaming len_->wB,max2->Eu,min2->Ew,clear_->oX,zeroCells->fN,nextslicecap->HW,firstCells->fB,lenOf->pJ,append_->iy
open Go.Instr renaming loadAt->yU,sureAddr->uW,storeAt->W2,fieldAt->W0,indexAt->W1,sliceBound->qZ,sliceBounds->nh,sliceAt->qD,fill->pK,buildSlice->Ad
open Go.IntKind renaming i64->ao,wrap_i64->qj
open Go.Op renaming bytesLess->b7
open Go.Oper renaming wp->OO
open Go.Region renaming binds->mU
open Go.Result renaming andThen_ok->bG
open Go.Sem renaming run_bind->cj,run_pure->cT,run->nB,run_ite->nr
open Go.World renaming cell?_of_block->uX,setRow->lI
open Int renaming toNat_natCast->dG,natCast_mul->W4
open List renaming mem_cons_of_mem->c7,mem_cons->cB,mem_cons_self->dq,mem_flatMap->bQ,mem_of_getElem?->aQ,append_nil->dn,length_nil->jT,getElem?_toArray->ik,append_assoc->cz,getElem?_append_left->dH,getElem?_take->d_,getElem?_append_right->da,getElem?_drop->dQ,length_eq_one_iff->g6,getElem?_cons_succ->dO,getD->jS,getElem?_map->bK,getElem_mem->bC,mem_map->cW,all_eq_true->bu,range->b9,getElem?_range->vP,getElem?_eq_none->k_,getElem?_eq_some_iff->aT,mem_of_mem_drop->la,mem_of_mem_take->ld,getElem?_of_mem->bY,map_toArray->DJ,map_cons->fD,map_nil->B0,ext_getElem?->Wj,eq_nil_of_length_eq_zero->gd,mem_append->ba,length_cons->db,foldl_cons->DI,map_map->mv,map_congr_left->Qt,size_toArray->Wl,length_map->bU,getD_eq_getElem?_getD->cS,getElem?_set->Qs,all_cons->td,length_take->eD,length_drop->iE,length_singleton->bA,mem_append_left->bM,mem_append_right->bN,nodup_append->eQ,length_set->cD,mem_or_eq_of_mem_set->jL,nodup_cons->lh,nil_append->gC,mem_singleton->aZ,getElem?_cons_zero->sI
open Nat renaming beq->bD,blt->qE,ble->fK,le_refl->cF,le_trans->dh,lt_of_lt_of_le->jy,eq_of_beq_eq_true->aU,add_zero->yX,add_assoc->me,le_of_ble_eq_true->cM,add_mul->dp,zero_le->bI,mul_le_mul_right->b8,eq_zero_or_pos->Dw,div_lt_iff_lt_mul->yK,mod_lt->Dx,div_add_mod->J_,mul_comm->EA,zero_add->bV,lt_or_gt_of_ne->Qv,add_comm->jc,sub_zero->sr,lt_irrefl->bm
open Option renaming some->ah,none->aj,map_some->jh,getD_some->yY
open Option.some renaming inj->aJ,injEq->jG
open Prod.mk renaming inj->bW,injEq->ji
open UInt8 renaming ofNat->ay
open _root_ renaming Nat->aF,Int->aw,Bool->aX,ByteArray->aq,List->az,Option->aC,Array->du,if_pos->bz,if_neg->bH,absurd->cJ,cond_true->au,cond_false->ax,decide_eq_true_eq->bf,of_decide_eq_true->cq,congrArg->lO
namespace Go.FG
inductive Ck where
 |i (k:nA)|b|s|l (e:aF)|o
inductive CV where
 |i (k:nA) (n:aw)|b (x:aX)|s (x:aq)|l (e:aF) (xs:az (az CV))
abbrev aR:=az (az CV)
def CV.kd:CV->Ck
 | .i k _=> .i k| .b _=> .b| .s _=> .s| .l e _=> .l e
def bF:CV->aw| .i _ n=>n|_=>0
def cvB:CV->aX| .b x=>x|_=>ak
def bw:CV->aq| .s x=>x|_=>⟨#[]⟩
def jz:CV->aR| .l _ xs=>xs|_=>[]
def ar(xs:aR)(i j:aF):CV:=(xs.getD i []).getD j (.b ak)
inductive AV where
 |i (k:nA) (n:aw)|b (x:aX)|s (x:aq)
 |sh (e:aF) (xs:aR)
 |nl
 |own (nm:aF)
 |vw (nm lo hi:aF)
 |bp (nm j:aF)
 |rp (nm i j:aF)
 |sp (e:aF) (xs:aR) (i j:aF)
 |inn (nm i j:aF)
 |ip (nm i j i2 j2:aF)
 |fn (f:aF) (iX:az (az CV))
 |fp (xs:az CV) (j:aF)
inductive SV where
 |v (agg:aX) (xs:az AV)|kl (xs:az (aX×az AV))|un
inductive Obj where
 |box (xs:az AV)|od (xs:az CV)|row (e:aF) (ex:aX) (xs:aR)|fT (e:aF) (xs:aR)|dead
inductive eT where
 |v (x:SV)|o (x:Obj)|j9
def zH(n:aF):aX:=bD (n%1000) 999&&qE n 900000000
abbrev St:=aF->eT
def pS(s:St)(k:aF)(c:eT):St:=λn=>bif bD n k then c else s n
def wr(s:St):az (aF×eT)->St
 |[]=>s
 |(k,c)::r=>wr (pS s k c) r
def qx(n:aF):aF:=2*n
def c8(n:aF):aF:=2*n+1
inductive Rd (α:Type) where
 |ret (a:α)|fail|get (k:aF) (f:eT->Rd α)
def Rd.bind{α β:Type}:Rd α->(α->Rd β)->Rd β
 | .ret a,f=>f a
 | .fail,_=> .fail
 | .get k g,f=> .get k λc=>(g c).bind f
def Rd.run{α:Type}:Rd α->St->az aF->aC (α×az aF)
 | .ret a,_,l=>ah (a,l)
 | .fail,_,_=>aj
 | .get k f,s,l=>(f (s k)).run s (k::l)
structure TI where
 agg:aX
 ks:az Ck
 bytes:aF
inductive AA where
 |i (k:nA) (n:aw)|b (x:aX)|s (x:aq)|sh (e:aF) (xs:aR)|nl
 |ow (e:aF) (ex:aX) (xs:aR)|kp (xs:aR)|fn (f:aF) (iX:az (az CV))
inductive fw where
 |v (agg:aX) (xs:az AA)|pt (xs:az AA)|fb (xs:az CV)
structure dA where
 rs:az fw
 outs:az (az AA)
structure Tab where
 ty:aF->aC TI
 fo:aF->aF->aC (aF×aF)
 eqs:az aF
 SL:aF->aF->aX:=λ_ _=>ak
inductive Om where
 |nat|own (e:aF)|sh (e:aF)
structure fQ extends Tab where
 call:aF->az fw->aC (aX×dA)
 om:aF->aF->Om
 mode:aF->aF->aX
 keep:aF->az aF
 tk:aF->aX
instance:Coe fQ Tab:=⟨fQ.toTab⟩
structure s8 where
 cond:aX
 ws:az (aF×eT)
def mO(n:aF):az aF->aX
 |[]=>ak|m::r=>bD n m||mO n r
def cst:bk->SV
 | .int k n=> .v ak [.i k n]| .bool x=> .v ak [.b x]| .string x=>bif fK x.size 4611686018427387904 then .v ak [.s x]else .un
 | .slice aj 0 0=> .v ak [.nl]
 |_=> .un
def Hw(x:dy):Rd SV:=
 match x with
 | .tmp t=> .get (qx t) λ| .v x=> .ret x|_=> .ret .un
 | .const v=> .ret (cst v)
 | .func f=> .ret (.v ak [.fn f []])
 | .global _=> .fail
def jP(nm:aF):Rd Obj:= .get (c8 nm) λ| .o x=> .ret x|_=> .fail
def fresh(nm:aF):Rd Unit:= .get (c8 nm) λ| .j9=>bif fK nm 899999999 then .ret ()else .fail|_=> .fail
def rZ(x:dy):Rd AV:=(Hw x).bind λ| .v ak [a]=> .ret a|_=> .fail
def CR(x:dy):Rd (nA×aw):=(rZ x).bind λ| .i k n=> .ret (k,n)|_=> .fail
def dw(o:fC)(v:SV):az (aF×eT):=match o.dst with|some d=>[(qx d, .v v)]|none=>[]
def val(o:fC)(v:SV):Rd s8:= .ret ⟨ai,dw o v⟩
def zZ(o:fC)(v:AV):Rd s8:=val o (.v ak [v])
def Mc(o:fC)(c:aX)(v:AV):Rd s8:= .ret ⟨c,dw o (.v ak [v])⟩
def sW(E:fQ)(t:aF):Rd TI:=match E.ty t with|some i=> .ret i|none=> .fail
def p8(E:fQ)(t:aF):Rd Ck:=(sW E t).bind λti=>match ti.agg,ti.ks with|false,[k]=> .ret k|_,_=> .fail
def Ds:Ck->AV
 | .i k=> .i k 0| .b=> .b ak| .s=> .s ⟨#[]⟩| .l _=> .nl| .o=> .nl
def z7:Ck->CV
 | .i k=> .i k 0| .b=> .b ak| .s=> .s ⟨#[]⟩| .l e=> .l e []| .o=> .b ak
def LB(ks:az Ck):aX:=ks.all λ| .o=>ak|_=>ai
def dec:Ck->CV->AV
 | .i k,x=> .i k (bF x)| .b,x=> .b (cvB x)| .s,x=> .s (bw x)| .l e,x=> .sh e (jz x)| .o,_=> .nl
def vj(xs:aR)(i:aF):aF->az Ck->az AV
 |_,[]=>[]
 |j,k::ks=>dec k (ar xs i j)::vj xs i (j+1) ks
def A4(nm:aF)(xs:aR)(i:aF):aF->az Ck->az AV
 |_,[]=>[]
 |j, .l _::ks=> .inn nm i j::A4 nm xs i (j+1) ks
 |j,k::ks=>dec k (ar xs i j)::A4 nm xs i (j+1) ks
def Zm:CV->AV
 | .i k n=> .i k n| .b x=> .b x| .s x=> .s x| .l e xs=> .sh e xs
def iH{α:Type}(xs:az α)(j:aF)(ys:az α):az α:=xs.take j++ys++xs.drop (j+ys.length)
def eJ(xs:aR)(i j:aF)(ys:az CV):aR:=xs.set i (iH (xs.getD i []) j ys)
def aAM(agg:aX)(xs:az AV):SV:= .v agg xs
def eA(xs:aR)(lo hi:aF):aR:=(xs.drop lo).take (hi-lo)
def plain(ks:az Ck):aX:=ks.all λ| .i _=>ai| .b=>ai| .s=>ai|_=>ak
def ckB:Ck->Ck->aX
 | .i a, .i b=>decide (a=b)| .b, .b=>ai| .s, .s=>ai| .l a, .l b=>bD a b| .o, .o=>ai|_,_=>ak
def qt:az Ck->az Ck->aX
 |[],[]=>ai|x::l,y::r=>ckB x y&&qt l r|_,_=>ak
def IP(ex:aX)(k:Ck)(a:AV):Rd (CV×az (aF×eT)):=
 match k,a with
 | .i k, .i k' n=>if k=k' then .ret (.i k n,[])else .fail
 | .b, .b x=> .ret (.b x,[])
 | .s, .s x=> .ret (.s x,[])
 | .l e, .nl=> .ret (.l e [],[])
 | .l e, .sh e' xs=>bif bD e e'&& !ex then .ret (.l e xs,[])else .fail
 | .l e, .own nm=>(jP nm).bind λ
  | .row e' uE xs=>bif bD e e'&&uE then(bif ex then .ret (.l e xs,[(c8 nm, .o .dead)])else .fail)else .fail
  | .fT e' xs=>bif bD e e'&& !ex then .ret (.l e xs,[])else .fail
  |_=> .fail
 |_,_=> .fail
def zy(ex:aX):az Ck->az AV->Rd (az CV×az (aF×eT))
 |[],[]=> .ret ([],[])
 |k::ks,a::r=>(IP ex k a).bind λ(c,w)=>(zy ex ks r).bind λ(cs,ws)=> .ret (c::cs,w++ws)
 |_,_=> .fail
def aiK:az AV->aX
 |[]=>ai
 | .sh _ _::_=>ak
 |_::r=>aiK r
end Go.FG

namespace Go.FG
def aeJ(op:BinOp)(k:nA)(a b:aw):aC (aX×AV):=
 match op with
 | .add=>ah (ai, .i k (k.wrap (a+b)))
 | .sub=>ah (ai, .i k (k.wrap (a-b)))
 | .mul=>ah (ai, .i k (k.wrap (a*b)))
 | .quo=>ah (!(b==0), .i k (k.wrap (a.tdiv b)))
 | .rem=>ah (!(b==0), .i k (a.tmod b))
 | .and=>ah (ai, .i k (k.wrap (ca k.bits a&&&ca k.bits b).toNat))
 | .or=>ah (ai, .i k (k.wrap (ca k.bits a|||BitVec.ofInt k.bits b).toNat))
 | .xor=>ah (ai, .i k (k.wrap (ca k.bits a^^^ca k.bits b).toNat))
 | .eql=>ah (ai, .b (a==b))
 | .neq=>ah (ai, .b (a !=b))
 | .lss=>ah (ai, .b (decide (a<b)))
 | .leq=>ah (ai, .b (decide (a<=b)))
 | .gtr=>ah (ai, .b (decide (a>b)))
 | .geq=>ah (ai, .b (decide (a≥b)))
 |_=>aj
def aeL(op:BinOp)(a b:aq):aC (aX×AV):=
 match op with
 | .add=>ah (decide (a.size+b.size<=4611686018427387904), .s (a++b))
 | .eql=>ah (ai, .b (a.toList==b.toList))
 | .neq=>ah (ai, .b (!(a.toList==b.toList)))
 | .lss=>ah (ai, .b (b7 a.toList b.toList))
 | .leq=>ah (ai, .b (b7 a.toList b.toList||a.toList==b.toList))
 | .gtr=>ah (ai, .b (!(b7 a.toList b.toList||a.toList==b.toList)))
 | .geq=>ah (ai, .b (!(b7 a.toList b.toList)))
 |_=>aj
def Xx:az AV->az AV->aC aX
 |[],[]=>ah ai
 | .i k a::l, .i k' b::r=>if k=k' then(match Xx l r with|some t=>ah ((a==b)&&t)|none=>aj)else aj
 | .b a::l, .b b::r=>match Xx l r with|some t=>ah ((a==b)&&t)|none=>aj
 | .s a::l, .s b::r=>match Xx l r with|some t=>ah ((a.toList==b.toList)&&t)|none=>aj
 |_,_=>aj
def Hi:AV->Ck
 | .i k _=> .i k| .b _=> .b| .s _=> .s|_=> .o
def KH(op:BinOp)(k:Ck):AV->AV->aC (aX×AV)
 | .i k a, .i k' b=>if k=k' then aeJ op k a b else aj
 | .s a, .s b=>aeL op a b
 | .b a, .b b=>match op,k with| .eql, .b=>ah (ai, .b (a==b))| .neq, .b=>ah (ai, .b (!(a==b)))|_,_=>aj
 |_,_=>aj
def shV(op:BinOp):AV->AV->aC (aX×AV)
 | .i k a, .i _ b=>match op with
  | .shl=>ah (decide (0<=b), .i k (k.wrap (a*2^(min b.toNat k.bits))))
  | .shr=>ah (decide (0<=b), .i k (a.fdiv (2^(min b.toNat k.bits))))
  |_=>aj
 |_,_=>aj
def PE:BinOp->aX| .shl=>ai| .shr=>ai|_=>ak
def isEq:BinOp->aX| .eql=>ai| .neq=>ai|_=>ak
def UD{α:Type}:aC α->Rd α|some a=> .ret a|none=> .fail
def aeK(E:fQ)(t:aF)(op:BinOp)(x y:SV):Rd (aX×AV):=
 match x,y with
 | .v ak [a], .v ak [b]=>bif PE op then UD (shV op a b)else(p8 E t).bind λk=>UD (KH op k a b)
 | .v ai xs, .v ai ys=>(sW E t).bind λti=>
   bif isEq op&&mO t E.eqs&&qt (xs.map Hi) ti.ks&&qt (ys.map Hi) ti.ks&&plain ti.ks then UD (match Xx xs ys with|some r=>ah (ai,AV.b (match op with| .eql=>r|_=> !r))|none=>aj)else .fail
 |_,_=> .fail
def Nq:az AV->az (aF×az AV)->az AV
 |z,[]=>z
 |z,(j,ys)::r=>Nq (iH z j ys) r
def Hy(E:fQ)(t:aF):az (aF×dy)->Rd (az (aF×az AV))
 |[]=> .ret []
 |(f,x)::r=>(Hw x).bind λ
  | .v _ ys=>match E.fo t f with
   |some (o,n)=>bif bD ys.length n then(Hy E t r).bind λl=> .ret ((o,ys)::l)else .fail
   |none=> .fail
  |_=> .fail
def mJ(E:fQ)(a:AV):Rd (aF×aR):=
 match a with
 | .sh e xs=> .ret (e,xs)
 | .own nm=>(jP nm).bind λ| .row e _ xs=> .ret (e,xs)| .fT e xs=> .ret (e,xs)|_=> .fail
 | .vw nm lo hi=>(jP nm).bind λ| .row e _ xs=> .ret (e,eA xs lo hi)| .fT e xs=> .ret (e,eA xs lo hi)|_=> .fail
 | .inn nm i j=>(jP nm).bind λ
  | .row e ai xs=>(sW E e).bind λti=>match ti.ks[j]? with|some (.l e2)=> .ret (e2,jz (ar xs i j))|_=> .fail
  |_=> .fail
 |_=> .fail
def afK(E:fQ)(k:Ck)(a:AV):Rd aw:=
 match k,a with
 | .s, .s x=> .ret x.size
 | .l _, .nl=> .ret 0
 | .l _, .vw nm lo hi=>(jP nm).bind λ| .row _ _ _=> .ret ((hi-lo:aF):aw)| .fT _ _=> .ret ((hi-lo:aF):aw)|_=> .fail
 | .l _,a=>(mJ E a).bind λ(_,xs)=> .ret xs.length
 |_,_=> .fail
def KQ(ex:aX)(ks:az Ck):az (aF×dy)->aR->Rd (aR×az (aF×eT))
 |[],z=> .ret (z,[])
 |(i,x)::r,z=>(Hw x).bind λ
  | .v _ ys=>bif fK (i+1) z.length then(zy ex ks ys).bind λ(cs,w)=>(KQ ex ks r (z.set i cs)).bind λ(z,ws)=> .ret (z,w++ws)else .fail
  |_=> .fail
def Nk:az (aF×dy)->Rd aX
 |[]=> .ret ai
 |(_,x)::r=>(Hw x).bind λ
  | .v _ ys=>(Nk r).bind λb=> .ret (aiK ys&&b)
  |_=> .fail
def aP(ks:az Ck)(n:aF):aR:=List.replicate n (ks.map z7)
def bytesOf(xs:aR):aq:=⟨(xs.map λy=>ay (bF (y.getD 0 (.b ak))).toNat).toArray⟩
def qU(s:aq):aR:=s.data.toList.map λb=>[.i .u8 (b.toNat:aw)]
def u8s:az Ck->aX|[.i .u8]=>ai|_=>ak
def flat(E:fQ)(ks:az Ck):aX:=ks.all λ
 | .l e=>match E.ty e with|some ti=>plain ti.ks|none=>ak
 |_=>ai
def cw(n:aF)(bytes:aF):aX:=decide (n*bytes<=140737488355328)&&decide (n<=9223372036854775807)
def tO(E:fQ)(ti:TI)(p:AV):Rd (az AV):=
 match p with
 | .bp nm j=>(jP nm).bind λ
  | .box xs=>bif fK (j+ti.ks.length) xs.length then .ret ((xs.drop j).take ti.ks.length)else .fail
  | .od xs=>bif fK (j+ti.ks.length) xs.length then .ret (((xs.drop j).take ti.ks.length).map Zm)else .fail
  |_=> .fail
 | .fp xs j=>bif fK (j+ti.ks.length) xs.length then .ret (((xs.drop j).take ti.ks.length).map Zm)else .fail
 | .sp e xs i j=>(sW E e).bind λte=>bif qt ((te.ks.drop j).take ti.ks.length) ti.ks then .ret (vj xs i j ti.ks)else .fail
 | .rp nm i j=>(jP nm).bind λ
  | .row e ex xs=>(sW E e).bind λte=>bif qt ((te.ks.drop j).take ti.ks.length) ti.ks then(bif ex&&zH nm then(bif plain ti.ks then .ret (vj xs i j ti.ks)else .fail)else .ret (bif ex then A4 nm xs i j ti.ks else vj xs i j ti.ks))else .fail
  | .fT e xs=>(sW E e).bind λte=>bif qt ((te.ks.drop j).take ti.ks.length) ti.ks then .ret (vj xs i j ti.ks)else .fail
  |_=> .fail
 | .ip nm i j i2 j2=>(jP nm).bind λ
  | .row e ai xs=>(sW E e).bind λte=>match te.ks[j]? with
   |some (.l e2)=>(sW E e2).bind λt2=>bif qt ((t2.ks.drop j2).take ti.ks.length) ti.ks then .ret (vj (jz (ar xs i j)) i2 j2 ti.ks)else .fail
   |_=> .fail
  |_=> .fail
 |_=> .fail
def HK(E:fQ)(p:AV)(ys:az AV):Rd (az (aF×eT)):=
 match p with
 | .bp nm j=>(jP nm).bind λ
  | .box xs=>bif fK (j+ys.length) xs.length then .ret [(c8 nm, .o (.box (iH xs j ys)))]else .fail
  |_=> .fail
 | .rp nm i j=>(jP nm).bind λ
  | .row e ex xs=>(sW E e).bind λte=>bif plain ((te.ks.drop j).take ys.length)then(zy ak ((te.ks.drop j).take ys.length) ys).bind λ(cs,_)=> .ret [(c8 nm, .o (.row e ex (eJ xs i j cs)))]else .fail
  |_=> .fail
 | .ip nm i j i2 j2=>(jP nm).bind λ
  | .row e ai xs=>(sW E e).bind λte=>match te.ks[j]? with
   |some (.l e2)=>(sW E e2).bind λt2=>bif plain t2.ks then(zy ak ((t2.ks.drop j2).take ys.length) ys).bind λ(cs,_)=>
    .ret [(c8 nm, .o (.row e ai (eJ xs i j [.l e2 (eJ (jz (ar xs i j)) i2 j2 cs)])))]else .fail
   |_=> .fail
  |_=> .fail
 |_=> .fail
def JE:az AV->aX
 |[]=>ai
 | .own _::_=>ak
 |_::r=>JE r
def zN:aF->az AV->aC (aF×aF)
 |_,[]=>aj
 |q, .own n::r=>bif JE r then ah (q,n)else aj
 |q,_::r=>zN (q+1) r
def D0(e2 n2:aF)(zs:aR):az Ck->az AV->aC (az CV)
 |[],[]=>ah []
 | .i k::ks, .i k' x::r=>if k=k' then(D0 e2 n2 zs ks r).map (.i k x:: ·)else aj
 | .b::ks, .b x::r=>(D0 e2 n2 zs ks r).map (.b x:: ·)
 | .s::ks, .s x::r=>(D0 e2 n2 zs ks r).map (.s x:: ·)
 | .l e::ks, .own n::r=>bif bD e e2&&bD n n2 then(D0 e2 n2 zs ks r).map (.l e2 zs:: ·)else aj
 |_,_=>aj
def HJ(E:fQ)(n i j:aF)(ys:az AV):Rd (az (aF×eT)):=
 (jP n).bind λ
 | .row e ai xs=>(sW E e).bind λte=>match zN 0 ys with
  |some (q,n2)=>bif bD n n2 then .fail else(jP n2).bind λ
   | .row e2 ai zs=>(sW E e2).bind λt2=>bif plain t2.ks&&fK (j+ys.length) te.ks.length then(match D0 e2 n2 zs ((te.ks.drop j).take ys.length) ys with
    |some cs=> .ret [(c8 n, .o (.row e ai (eJ xs i j cs))),(c8 n2, .o .dead)]
    |none=> .fail)else .fail
   |_=> .fail
  |none=> .fail
 |_=> .fail
def VQ(E:fQ)(p:AV)(ys:az AV):Rd (az (aF×eT)):=
 match p with
 | .rp n i j=>bif zH n then HJ E n i j ys else HK E (.rp n i j) ys
 |p=>HK E p ys
def SF(E:fQ)(t:aF)(f:aF)(p:AV):Rd AV:=
 match E.fo t f with
 |none=> .fail
 |some (o,_)=>match p with
  | .bp nm j=> .ret (.bp nm (j+o))
  | .rp nm i j=> .ret (.rp nm i (j+o))
  | .sp e xs i j=> .ret (.sp e xs i (j+o))
  | .ip nm i j i2 j2=> .ret (.ip nm i j i2 (j2+o))
  | .fp xs j=> .ret (.fp xs (j+o))
  |_=> .fail
def Td(E:fQ)(e:aF)(x:AV)(n:aw):Rd (aX×AV):=
 match x with
 | .sh e' xs=>bif bD e e' then .ret (decide (0<=n)&&decide (n<(xs.length:aw)), .sp e' xs n.toNat 0)else .fail
 | .own nm=>(jP nm).bind λ
  | .row e' _ xs=>bif bD e e' then .ret (decide (0<=n)&&decide (n<(xs.length:aw)), .rp nm n.toNat 0)else .fail
  | .fT e' xs=>bif bD e e' then .ret (decide (0<=n)&&decide (n<(xs.length:aw)), .rp nm n.toNat 0)else .fail
  |_=> .fail
 | .vw nm lo hi=>(jP nm).bind λ
  | .row e' _ xs=>bif bD e e' then .ret (decide (0<=n)&&decide (n<((hi-lo:aF):aw)), .rp nm (lo+n.toNat) 0)else .fail
  | .fT e' xs=>bif bD e e' then .ret (decide (0<=n)&&decide (n<((hi-lo:aF):aw)), .rp nm (lo+n.toNat) 0)else .fail
  |_=> .fail
 | .inn nm i j=>(jP nm).bind λ
  | .row e1 ai xs=>(sW E e1).bind λte=>match te.ks[j]? with
   |some (.l e')=>bif bD e e' then .ret (decide (0<=n)&&decide (n<((jz (ar xs i j)).length:aw)), .ip nm i j n.toNat 0)else .fail
   |_=> .fail
  |_=> .fail
 |_=> .fail
def oi(x:aC dy)(d:aw):Rd aw:=
 match x with
 |none=> .ret d
 |some x=>(CR x).bind λ(_,n)=> .ret n
def g8(l h n:aw):aX:=decide (0<=l)&&decide (l<=h)&&decide (h<=n)
def Vb(e:aF)(x:AV)(lo hi:aC dy):Rd (aX×AV):=
 match x with
 | .sh e' xs=>bif bD e e' then(oi lo 0).bind λl=>(oi hi xs.length).bind λh=> .ret (g8 l h xs.length, .sh e' (eA xs l.toNat h.toNat))else .fail
 | .own nm=>(jP nm).bind λ
  | .row e' _ xs=>bif bD e e' then(oi lo 0).bind λl=>(oi hi xs.length).bind λh=> .ret (g8 l h xs.length, .vw nm l.toNat h.toNat)else .fail
  | .fT e' xs=>bif bD e e' then(oi lo 0).bind λl=>(oi hi xs.length).bind λh=> .ret (g8 l h xs.length, .vw nm l.toNat h.toNat)else .fail
  |_=> .fail
 | .vw nm a b=>(jP nm).bind λ
  | .row e' _ _=>bif bD e e' then(oi lo 0).bind λl=>(oi hi ((b-a:aF):aw)).bind λh=> .ret (g8 l h ((b-a:aF):aw), .vw nm (a+l.toNat) (a+h.toNat))else .fail
  | .fT e' _=>bif bD e e' then(oi lo 0).bind λl=>(oi hi ((b-a:aF):aw)).bind λh=> .ret (g8 l h ((b-a:aF):aw), .vw nm (a+l.toNat) (a+h.toNat))else .fail
  |_=> .fail
 | .nl=>(oi lo 0).bind λl=>(oi hi 0).bind λh=> .ret (g8 l h 0, .nl)
 |_=> .fail
def LY(E:fQ)(k:Ck)(x:AV)(lo hi:aC dy):Rd (aX×AV):=
 match k,x with
 | .s, .s a=>(oi lo 0).bind λl=>(oi hi a.size).bind λh=> .ret (g8 l h a.size, .s (a.extract l.toNat h.toNat))
 | .l e,x=>(sW E e).bind λ_=>Vb e x lo hi
 |_,_=> .fail
def w9(e:aF)(s:AV):Rd (aX×aR×az aF):=
 match s with
 | .nl=> .ret (ai,[],[])
 | .own nm=>(jP nm).bind λ
  | .row e' ex xs=>bif bD e e' then .ret (ex,xs,[nm])else .fail
  |_=> .fail
 | .vw nm lo hi=>(jP nm).bind λ
  | .row e' ex xs=>bif bD e e' then .ret (ex,eA xs lo hi,[nm])else .fail
  |_=> .fail
 |_=> .fail
def TZ(E:fQ)(tQ e:aF)(ks:az Ck)(b:az aF)(x:AV):Rd (aX×aR×az (aF×eT)):=
 match x with
 | .s a=>bif u8s ks then .ret (ai,qU a,[])else .fail
 | .nl=> .ret (ai,[],[])
 | .sh e' xs=>bif bD e e' then .ret (plain ks,xs,[])else .fail
 | .own nm=>(jP nm).bind λ
  | .row e' ex xs=>bif bD e e' then
    (bif plain ks|| !ex then .ret (plain ks,xs,[])
    else bif mO nm b then .fail
    else bif E.tk tQ then .ret (ak,xs,[(c8 nm, .o (.fT e xs))])else .ret (ai,xs,[(c8 nm, .o .dead)]))else .fail
  | .fT e' xs=>bif bD e e' then .ret (plain ks,xs,[])else .fail
  |_=> .fail
 | .vw nm lo hi=>(jP nm).bind λ
  | .row e' ex xs=>bif bD e e' then
    (bif plain ks|| !ex then .ret (plain ks,eA xs lo hi,[])
    else bif mO nm b then .fail
    else bif E.tk tQ then .ret (ak,eA xs lo hi,[(c8 nm, .o (.fT e xs))])else .fail)else .fail
  | .fT e' xs=>bif bD e e' then .ret (plain ks,eA xs lo hi,[])else .fail
  |_=> .fail
 | .inn nm i j=>bif plain ks then(mJ E (.inn nm i j)).bind λ(e',xs)=>bif bD e e' then .ret (ai,xs,[])else .fail else .fail
 |_=> .fail
def oA(b:az aF):az (aF×eT):=b.map λn=>(c8 n, .o .dead)
def GQ(E:fQ)(tQ:aF)(t:aF)(s x:AV):Rd (aX×AV×az (aF×eT)):=
 (sW E t).bind λti=>match ti.agg,ti.ks with
 |false,[.l e]=>(sW E e).bind λte=>bif LB te.ks then(w9 e s).bind λ(Dy,xs,b)=>
  (TZ E tQ e te.ks b x).bind λ(A5,ys,w2)=>(fresh tQ).bind λ_=>
  .ret (cw (xs.length+ys.length) te.bytes, .own tQ,oA b++(w2++[(c8 tQ, .o (.row e (Dy&&A5) (xs++ys)))]))else .fail
 |_,_=> .fail
def Wb(E:fQ)(tQ:aF)(t:aF)(s:AV)(n:aw):Rd (aX×AV×az (aF×eT)):=
 (sW E t).bind λti=>match ti.agg,ti.ks with
 |false,[.l e]=>(sW E e).bind λte=>bif LB te.ks&&flat E te.ks then(w9 e s).bind λ(ex,xs,b)=>(fresh tQ).bind λ_=>
  .ret (decide (0<=n)&&cw (xs.length+n.toNat) te.bytes&&decide (n<=9223372036854775807), .own tQ,oA b++[(c8 tQ, .o (.row e ex (xs++aP te.ks n.toNat)))])else .fail
 |_,_=> .fail
def Sv(E:fQ)(e:aF)(x:AV):Rd (az (aF×eT)):=
 match x with
 | .own nm=>(jP nm).bind λ
  | .row e' ex xs=>(sW E e).bind λte=>bif bD e e'&&plain te.ks then .ret [(c8 nm, .o (.row e' ex (aP te.ks xs.length)))]else .fail
  |_=> .fail
 | .vw nm lo hi=>(jP nm).bind λ
  | .row e' ex xs=>(sW E e).bind λte=>bif bD e e'&&plain te.ks then .ret [(c8 nm, .o (.row e' ex (xs.take lo++aP te.ks (hi-lo)++xs.drop hi)))]else .fail
  |_=> .fail
 | .nl=> .ret []
 |_=> .fail
def iv(mx:aX)(a b:aw):aw:=bif mx then(if b>a then b else a)else(if b<a then b else a)
def xT(mx:aX):az dy->nA->aw->Rd AV
 |[],k,a=> .ret (.i k a)
 |x::r,k,a=>(CR x).bind λ(_,b)=>xT mx r k (iv mx a b)
end Go.FG

namespace Go.FG
inductive Src where
 |own (nm e:aF) (ex:aX)|no
structure Pk where
 a:AA
 src:Src
 rd:az aF
def Av(E:fQ)(mt:aX)(a:AV):Rd Pk:=
 match a with
 | .i k n=> .ret ⟨.i k n, .no,[]⟩| .b x=> .ret ⟨.b x, .no,[]⟩| .s x=> .ret ⟨.s x, .no,[]⟩
 | .sh e xs=> .ret ⟨.sh e xs, .no,[]⟩
 | .nl=> .ret ⟨.nl, .no,[]⟩
 | .fn f iX=> .ret ⟨.fn f iX, .no,[]⟩
 | .own nm=>(jP nm).bind λ
  | .row e ex xs=>bif mt then .ret ⟨.ow e ex xs, .own nm e ex,[]⟩else .ret ⟨.sh e xs, .no,[nm]⟩
  | .fT e xs=> .ret ⟨.sh e xs, .no,[]⟩
  |_=> .fail
 | .vw nm lo hi=>bif mt then .fail else(jP nm).bind λ
  | .row e _ xs=> .ret ⟨.sh e (eA xs lo hi), .no,[nm]⟩
  | .fT e xs=> .ret ⟨.sh e (eA xs lo hi), .no,[]⟩
  |_=> .fail
 | .inn nm i j=>(jP nm).bind λ
  | .row e ai xs=>(sW E e).bind λte=>match te.ks[j]? with
   |some (.l e2)=>(sW E e2).bind λt2=>bif plain t2.ks&& !mt then .ret ⟨.sh e2 (jz (ar xs i j)), .no,[nm]⟩else .fail
   |_=> .fail
  |_=> .fail
 |_=> .fail
def C0(E:fQ)(mt:aX):az AV->Rd (az Pk)
 |[]=> .ret []
 |a::r=>(Av E mt a).bind λp=>(C0 E mt r).bind λl=> .ret (p::l)
structure Pa where
 arg:fw
 box:aC (aF×az AV)
 cs:az Pk
def aeF(E:fQ)(mt:aX)(x:SV):Rd Pa:=
 match x with
 | .v ak [.bp nm 0]=>bif mt then(jP nm).bind λ
   | .box xs=>(C0 E ai xs).bind λl=> .ret ⟨.pt (l.map (·.a)),ah (nm,xs),l⟩
   |_=> .fail
  else .fail
 | .v agg xs=>(C0 E mt xs).bind λl=> .ret ⟨.v agg (l.map (·.a)),aj,l⟩
 |_=> .fail
def Zi:Ck->AV->AV
 | .l e, .nl=> .sh e []
 |_,a=>a
def CN:az Ck->az AV->az AV
 |k::ks,a::r=>Zi k a::CN ks r
 |_,r=>r
def nlz(E:Tab)(t:aC aF)(v:SV):SV:=
 match t with
 |none=>v
 |some t=>match E.ty t,v with
  |some ti, .v g xs=> .v g (CN ti.ks xs)
  |_,v=>v
def Sh(E:fQ)(f:aF)(QL:aC (az aF)):aF->az dy->Rd (az Pa)
 |_,[]=> .ret []
 |p,x::r=>(Hw x).bind λv=>(aeF E (E.mode f p) (bif E.mode f p then v else nlz E (match QL with|some l=>l[p]? |none=>aj) v)).bind λa=>bif fK a.cs.length 100 then(Sh E f QL (p+1) r).bind λl=> .ret (a::l)else .fail
def Pk.uK(p:Pk):az aF:=match p.src with| .own nm _ _=>[nm]| .no=>[]
def Pa.uK(p:Pa):az aF:=(match p.box with|some (nm,_)=>[nm]|none=>[])++p.cs.flatMap (·.uK)
def Pa.nP(p:Pa):az aF:=p.cs.flatMap (·.rd)
def tT:az aF->aX
 |[]=>ai|n::r=> !mO n r&&tT r
def rN:az aF->az aF->aX
 |[],_=>ai|n::r,l=> !mO n l&&rN r l
def rP(ok:aX)(nm:aF)(a:AA):Rd (AV×az (aF×eT)):=
 match a with
 | .i k n=> .ret (.i k n,[])| .b x=> .ret (.b x,[])| .s x=> .ret (.s x,[])| .nl=> .ret (.nl,[])
 | .sh e xs=>bif ok then .ret (.sh e xs,[])else .fail
 | .ow e ex xs=>bif ex||ok then(fresh nm).bind λ_=> .ret (.own nm,[(c8 nm, .o (.row e ex xs))])else .fail
 |_=> .fail
def Bn(ok:aX):aF->az AA->Rd (az AV×az (aF×eT))
 |_,[]=> .ret ([],[])
 |nm,a::r=>(rP ok nm a).bind λ(v,w)=>(Bn ok (nm+1) r).bind λ(vs,ws)=> .ret (v::vs,w++ws)
def GU(ok:aX)(nm:aF)(a:fw):Rd ((aX×az AV)×az (aF×eT)):=
 match a with
 | .v agg xs=>(Bn ok nm xs).bind λ(vs,ws)=> .ret ((agg,vs),ws)
 | .pt xs=>(Bn ok nm xs).bind λ(vs,ws)=>(fresh (nm+30)).bind λ_=> .ret ((ak,[.bp (nm+30) 0]),ws++[(c8 (nm+30), .o (.box vs))])
 | .fb _=> .fail
def Ca(ok:aX):aF->az fw->Rd (az (aX×az AV)×az (aF×eT))
 |_,[]=> .ret ([],[])
 |nm,a::r=>(GU ok nm a).bind λ(v,w)=>(Ca ok (nm+40) r).bind λ(vs,ws)=> .ret (v::vs,w++ws)
def Ft(ok:aX)(p:Pk)(a:AA):Rd (az (aF×eT)):=
 match p.src,a with
 | .no,_=> .ret []
 | .own nm e ex, .kp xs=>bif ex||ok then .ret [(c8 nm, .o (.row e ex xs))]else .fail
 | .own nm _ _, .nl=> .ret [(c8 nm, .o .dead)]
 |_,_=> .fail
def LK(ok:aX):az Pk->az AA->Rd (az (aF×eT))
 |[],_=> .ret []
 |p::r,l=>(Ft ok p (l.headD .nl)).bind λw=>(LK ok r l.tail).bind λws=> .ret (w++ws)
def CU(ok:aX)(nm:aF)(p:Pk)(v:AV)(a:AA):Rd (AV×az (aF×eT)):=
 match p.src,a with
 | .own n e ex, .kp xs=>bif ex||ok then .ret (v,[(c8 n, .o (.row e ex xs))])else .fail
 | .own n _ _,a=>(rP ok nm a).bind λ(v,w)=> .ret (v,(c8 n, .o .dead)::w)
 | .no,a=>rP ok nm a
def r_(ok:aX):aF->az Pk->az AV->az AA->Rd (az AV×az (aF×eT))
 |_,[],[],[]=> .ret ([],[])
 |nm,p::ps,v::vs,a::as=>(CU ok nm p v a).bind λ(v,w)=>(r_ ok (nm+1) ps vs as).bind λ(vs,ws)=> .ret (v::vs,w++ws)
 |_,_,_,_=> .fail
def UE(ok:aX)(nm:aF)(p:Pa)(l:az AA):Rd (az (aF×eT)):=
 match p.box with
 |some (n,vs)=>(r_ ok nm p.cs vs l).bind λ(vs,ws)=> .ret (ws++[(c8 n, .o (.box vs))])
 |none=>LK ok p.cs l
def LJ(ok:aX):aF->az Pa->az (az AA)->Rd (az (aF×eT))
 |_,[],_=> .ret []
 |nm,p::r,l=>(UE ok nm p (l.headD [])).bind λw=>(LJ ok (nm+40) r l.tail).bind λws=> .ret (w++ws)
def sF:az (aX×az AV)->SV
 |[(agg,xs)]=> .v agg xs
 |l=> .kl l
def nF:fw->aF| .v _ xs=>xs.length| .pt xs=>xs.length| .fb _=>0
def SQ:az aF->Rd (az (aF×eT))
 |[]=> .ret []
 |n::r=>(jP n).bind λ
  | .row e _ xs=>(SQ r).bind λws=> .ret ((c8 n, .o (.fT e xs))::ws)
  |_=> .fail
def GX(E:fQ)(nm:aF)(o:fC)(f:aF)(args:az dy)(QL:aC (az aF))(iX:az (az CV)):Rd s8:=
 (Sh E f QL 0 args).bind λps=>
  bif tT (ps.flatMap (·.uK))&&rN (ps.flatMap (·.uK)) (ps.flatMap (·.nP))then
   match E.call f (ps.map (·.arg)++iX.map fw.fb)with
   |some (c,r)=>bif fK ps.length 400&&(r.rs.all λa=>fK (nF a) 30)&&(r.outs.all λa=>fK a.length 100)then(SQ (bif E.tk nm then ps.flatMap (·.nP)else [])).bind λw0=>
    (LJ (E.tk nm||(ps.flatMap (·.nP)).isEmpty) (nm+400) ps r.outs).bind λw1=>(Ca (E.tk nm||(ps.flatMap (·.nP)).isEmpty) (nm+1) r.rs).bind λ(vs,w2)=>
    bif tT ((w1++w2).map (·.1))then .ret ⟨c,w0++(w1++w2)++dw o (sF vs)⟩else .fail else .fail
   |none=> .fail
  else .fail
def Rd.or{α:Type}:Rd α->Rd α->Rd α
 | .ret a,_=> .ret a
 | .fail,y=>y
 | .get k f,y=> .get k λc=>(f c).or y
def M_(E:fQ)(nm:aF)(o:fC)(f:aF)(args:az dy)(QL:az aF)(iX:az (az CV)):Rd s8:=
 (GX E nm o f args aj iX).or (GX E nm o f args (ah QL) iX)
def CF(E:fQ)(o:fC)(f n i j:aF)(y:dy):Rd s8:=
 (CR y).bind λ(k,m)=>(jP n).bind λ
  | .row e ai xs=>(sW E e).bind λte=>match te.ks[j]? with
   |some (.l e2)=>match E.call f [.v ak [.ow e2 ai (jz (ar xs i j))], .v ak [.i k m]]with
    |some (c,r)=>match r.rs,r.outs with
     |[.v ak [.i k2 m2]],[[.kp ys]]=> .ret ⟨c,(c8 n, .o (.row e ai (eJ xs i j [.l e2 ys])))::dw o (.v ak [.i k2 m2])⟩
     |_,_=> .fail
    |none=> .fail
   |_=> .fail
  |_=> .fail
def Sq:az dy->Rd (az (az CV)×az (aF×eT))
 |[]=> .ret ([],[])
 |x::r=>(rZ x).bind λ
  | .bp nm 0=>(jP nm).bind λ
   | .box xs=>(aeM xs).bind λcs=>(Sq r).bind λ(l,ws)=> .ret (cs::l,(c8 nm, .o (.od cs))::ws)
   | .od cs=>(Sq r).bind λ(l,ws)=> .ret (cs::l,ws)
   |_=> .fail
  |_=> .fail
where aeM:az AV->Rd (az CV)
 |[]=> .ret []
 |a::r=>(aeM r).bind λl=>match a with
  | .i k n=> .ret (.i k n::l)| .b x=> .ret (.b x::l)| .s x=> .ret (.s x::l)
  | .sh e xs=> .ret (.l e xs::l)
  |_=> .fail
def ml(E:fQ)(nm:aF)(o:fC):Rd s8:=
 match o.op with
 | .move x| .assign x=>(Hw x).bind λv=>val o v
 | .nilCheck x=>(rZ x).bind λp=>match p with
  | .bp nm j=>val o (.v ak [.bp nm j])
  | .rp nm i j=>val o (.v ak [.rp nm i j])
  |_=> .fail
 | .pick c a b=>(rZ c).bind λc=>(Hw a).bind λa=>(Hw b).bind λb=>
  match c,a,b with
  | .b c, .v ak [.b p], .v ak [.b q]=>zZ o (.b (bif c then p else q))
  | .b c, .kl [],b=> .ret ⟨!c,dw o b⟩
  | .b c,a, .kl []=> .ret ⟨c,dw o a⟩
  |_,_,_=> .fail
 | .alloc t=>(sW E t).bind λti=>bif LB ti.ks then(fresh nm).bind λ_=> .ret ⟨ai,(c8 nm, .o (.box (ti.ks.map Ds)))::dw o (.v ak [.bp nm 0])⟩else .fail
 | .box t x=>(Hw x).bind λ
  | .v _ xs=>(fresh nm).bind λ_=> .ret ⟨ai,(c8 nm, .o (.box xs))::dw o (.v ak [.bp nm 0])⟩
  |_=> .fail
 | .build t ps=>(sW E t).bind λti=>bif LB ti.ks&&ti.agg then(Hy E t ps.toList).bind λl=>val o (.v ai (Nq (ti.ks.map Ds) l))else .fail
 | .buildSlice t n ps=>(sW E t).bind λti=>match ti.agg,ti.ks with
  |false,[.l e]=>(sW E e).bind λte=>bif LB te.ks then(Nk ps.toList).bind λex=>(KQ (ex&&flat E te.ks) te.ks ps.toList (aP te.ks n)).bind λ(xs,w)=>(fresh nm).bind λ_=>
   .ret ⟨fK (n*te.ks.length) 16777216&&tT (w.map (·.1)),w++(c8 nm, .o (.row e (ex&&flat E te.ks) xs))::dw o (.v ak [.own nm])⟩else .fail
  |_,_=> .fail
 | .load t p=>(sW E t).bind λti=>(rZ p).bind λp=>(tO E ti p).bind λxs=>val o (.v ti.agg xs)
 | .store t p x=>(sW E t).bind λti=>(rZ p).bind λp=>(Hw x).bind λ
  | .v _ ys=>bif bD ys.length ti.ks.length then(VQ E p ys).bind λw=> .ret ⟨ai,w++dw o .un⟩else .fail
  |_=> .fail
 | .fieldAddr t p f=>(rZ p).bind λp=>(SF E t f p).bind λq=>zZ o q
 | .field t x f=>(Hw x).bind λ
  | .v ai xs=>match E.fo t f with
   |some (j,n)=>bif E.SL t f&&bD n 1 then(match xs.drop j with|a::_=>zZ o a|[]=> .fail)else .fail
   |none=> .fail
  |_=> .fail
 | .indexAddr t x i=>(p8 E t).bind λ
  | .l e=>(rZ x).bind λx=>(CR i).bind λ(_,n)=>(Td E e x n).bind λ(c,q)=>Mc o c q
  |_=> .fail
 | .index t x i=>(p8 E t).bind λk=>(rZ x).bind λx=>(CR i).bind λ(_,n)=>match k,x with
  | .s, .s a=>Mc o (decide (0<=n)&&decide (n<(a.size:aw))) (.i .u8 ((a.data.getD n.toNat 0).toNat:aw))
  |_,_=> .fail
 | .binOp op t x y _=>(Hw x).bind λx=>(Hw y).bind λy=>(aeK E t op x y).bind λ(c,v)=>Mc o c v
 | .unOp op _ x=>(rZ x).bind λx=>match op,x with
  | .not, .b x=>zZ o (.b (!x))
  | .neg, .i k n=>zZ o (.i k (k.wrap (0-n)))
  |_,_=> .fail
 | .convert src dst x=>(p8 E src).bind λks=>(p8 E dst).bind λkd=>(rZ x).bind λx=>match kd,ks,x with
  | .i k, .i _, .i _ n=>zZ o (.i k (k.wrap n))
  | .s, .s, .s a=>zZ o (.s a)
  | .s, .l e', .nl=>(sW E e').bind λte=>bif u8s te.ks&& !te.agg then zZ o (.s ⟨#[]⟩)else .fail
  | .s, .l e',a=>(mJ E a).bind λ(e,xs)=>(sW E e).bind λte=>bif bD e e'&&u8s te.ks&& !te.agg then Mc o (decide (xs.length<=4611686018427387904)) (.s (bytesOf xs))else .fail
  |_,_,_=> .fail
 | .makeSlice t l c=>(CR l).bind λ(_,n)=>(CR c).bind λ(_,m)=>(sW E t).bind λti=>match ti.agg,ti.ks with
  |false,[.l e]=>(sW E e).bind λte=>bif LB te.ks&&flat E te.ks then(fresh (bif plain te.ks then nm else nm+999)).bind λ_=> .ret ⟨decide (0<=n)&&decide (n=m)&&cw n.toNat te.bytes,(c8 (bif plain te.ks then nm else nm+999), .o (.row e ai (aP te.ks n.toNat)))::dw o (.v ak [.own (bif plain te.ks then nm else nm+999)])⟩else .fail
  |_,_=> .fail
 | .slice t x lo hi mx=>match mx with
  |some _=> .fail
  |none=>(p8 E t).bind λk=>(rZ x).bind λx=>(LY E k x lo hi).bind λ(c,v)=>Mc o c v
 | .extract x i=>(Hw x).bind λ
  | .kl l=>match l[i]? with|some (agg,xs)=>val o (.v agg xs)|none=> .fail
  |_=> .fail
 | .makeFunc (.func f) first iX=>bif first.isEmpty then(Sq iX.toList).bind λ(l,ws)=> .ret ⟨ai,ws++dw o (.v ak [.fn f l])⟩else .fail
 | .call c=>match c.callee with
  | .builtin .len=>match c.args.toList,c.argTypes.toList with
   |[x],[t]=>(p8 E t).bind λk=>(rZ x).bind λx=>(afK E k x).bind λn=>zZ o (.i .i64 n)
   |_,_=> .fail
  | .builtin .cap=>match c.args.toList,c.argTypes.toList with
   |[x],[t]=>(p8 E t).bind λ| .l _=>((rZ x).bind λ| .nl=>zZ o (.i .i64 0)|_=> .fail)|_=> .fail
   |_,_=> .fail
  | .builtin .min=>match c.args.toList with
   |x::r=>(CR x).bind λ(k,n)=>(xT ak r k n).bind λv=>zZ o v
   |_=> .fail
  | .builtin .max=>match c.args.toList with
   |x::r=>(CR x).bind λ(k,n)=>(xT ai r k n).bind λv=>zZ o v
   |_=> .fail
  | .builtin .clear=>match c.args.toList with
   |[x]=>match c.argTypes.toList with
    |[t]=>(p8 E t).bind λ| .l e=>((rZ x).bind λx=>(Sv E e x).bind λw=> .ret ⟨ai,w++dw o (.kl [])⟩)|_=> .fail
    |_=> .fail
   |_=> .fail
  | .builtin .append=>match c.args.toList,c.argTypes.toList with
   |[s,x],[t,u]=>(p8 E u).bind λku=>(rZ s).bind λs=>(rZ x).bind λx=>match ku,x with
    | .i _, .i _ n=>(Wb E nm t s n).bind λ(b,v,w)=> .ret ⟨b,w++dw o (.v ak [v])⟩
    | .l _,x=>(GQ E nm t s x).bind λ(b,v,w)=> .ret ⟨b,w++dw o (.v ak [v])⟩
    | .s,x=>(GQ E nm t s x).bind λ(b,v,w)=> .ret ⟨b,w++dw o (.v ak [v])⟩
    |_,_=> .fail
   |_,_=> .fail
  | .value f=>(rZ f).bind λ
   | .fn f iX=>match c.args.toList,iX with
    |[x,y],[]=>(Hw x).bind λ
     | .v ak [.inn n i j]=>bif E.mode f 0 then CF E o f n i j y else M_ E nm o f c.args.toList c.argTypes.toList iX
     |_=>M_ E nm o f c.args.toList c.argTypes.toList iX
    |_,_=>M_ E nm o f c.args.toList c.argTypes.toList iX
   |_=> .fail
  |_=> .fail
 |_=> .fail
inductive Ex where
 |normal|exit (id:aF)|ret
structure Lg where
 rs:az aF
 ws:az aF
def Nv{R:Type}(a:AV)(f:AV->R):R:=
 match a with
 | .i k n=>f (.i k n)| .b x=>f (.b x)| .s x=>f (.s x)| .sh e xs=>f (.sh e xs)| .nl=>f .nl| .own n=>f (.own n)| .vw n lo hi=>f (.vw n lo hi)
 | .bp n j=>f (.bp n j)| .rp n i j=>f (.rp n i j)| .sp e xs i j=>f (.sp e xs i j)| .inn n i j=>f (.inn n i j)| .ip n i j i2 j2=>f (.ip n i j i2 j2)| .fn g iX=>f (.fn g iX)| .fp xs j=>f (.fp xs j)
def G3{R:Type}(a:aX)(f:aX->R):R:=match a with|true=>f ai|false=>f ak
def pA{R:Type}:az AV->(az AV->R)->R
 |[],f=>f []|a::r,f=>Nv a λa=>pA r λr=>f (a::r)
def G5{R:Type}:az (aX×az AV)->(az (aX×az AV)->R)->R
 |[],f=>f []|(g,xs)::r,f=>G3 g λg=>pA xs λxs=>G5 r λr=>f ((g,xs)::r)
def G4{R:Type}(v:SV)(f:SV->R):R:=
 match v with
 | .v g xs=>G3 g λg=>pA xs λxs=>f (.v g xs)| .kl l=>G5 l λl=>f (.kl l)| .un=>f .un
def K2{R:Type}(o:Obj)(f:Obj->R):R:=
 match o with
 | .box xs=>pA xs λxs=>f (.box xs)| .od cs=>f (.od cs)| .row e ex xs=>G3 ex λex=>f (.row e ex xs)| .fT e xs=>f (.fT e xs)| .dead=>f .dead
def KZ{R:Type}(c:eT)(f:eT->R):R:=
 match c with
 | .v x=>G4 x λx=>f (.v x)| .o x=>K2 x λx=>f (.o x)| .j9=>f .j9
def Cv{R:Type}:az (aF×eT)->(az (aF×eT)->R)->R
 |[],f=>f []|(k,c)::r,f=>KZ c λc=>Cv r λr=>f ((k,c)::r)
theorem KY{R:Type}(a:AV)(f:AV->R):Nv a f=f a:=by cases a<;>rfl
theorem zC{R:Type}(a:aX)(f:aX->R):G3 a f=f a:=by cases a<;>rfl
theorem nZ{R:Type}:∀(l:az AV) (f:az AV->R),pA l f=f l
 |[],_=>rfl
 |a::r,f=>by simp only[pA,KY,nZ r]
theorem E4{R:Type}:∀(l:az (aX×az AV)) (f:az (aX×az AV)->R),G5 l f=f l
 |[],_=>rfl
 |(g,xs)::r,f=>by simp only[G5,zC,nZ,E4 r]
theorem K3{R:Type}(v:SV)(f:SV->R):G4 v f=f v:=by cases v<;>simp only[G4,zC,nZ,E4]
theorem Pj{R:Type}(v:Obj)(f:Obj->R):K2 v f=f v:=by cases v<;>simp only[K2,zC,nZ]
theorem Ph{R:Type}(v:eT)(f:eT->R):KZ v f=f v:=by cases v<;>simp only[KZ,K3,Pj]
theorem E5{R:Type}:∀(l:az (aF×eT)) (f:az (aF×eT)->R),Cv l f=f l
 |[],_=>rfl
 |(k,c)::r,f=>by simp only[Cv,Ph,E5 r]
def ops{R:Type}(E:fQ)(all:du fC)(oq:aF):aF->az fC->St->az Lg->(St->az Lg->aC R)->aC R
 |_,[],σ,lg,K=>K σ lg
 |i,o::rest,σ,lg,K=>match o.guard with
  |none=>match (ml E ((oq+1)*1000000+i*1000) o).run σ []with
   |some (e,l)=>bif e.cond then Cv e.ws (λws=>ops E all oq (i+1) rest (wr σ ws) (⟨l,ws.map (·.1)⟩::lg) K)else aj
   |none=>aj
  |some (g,want)=>match (all.getD g default).dst with
   |none=>aj
   |some d=>match σ (qx d)with
    | .v (.v ak [.b x])=>
     let perform:=λy=>match (ml E ((oq+1)*1000000+i*1000) o).run (pS σ (qx d) (.v (.v ak [.b y]))) []with
      |some (e,l)=>bif e.cond then Cv e.ws (λws=>ops E all oq (i+1) rest (wr (pS σ (qx d) (.v (.v ak [.b y]))) ws) (⟨qx d::l,ws.map (·.1)⟩::lg) K)else aj
      |none=>aj
     let skip:=λy=>ops E all oq (i+1) rest (wr (pS σ (qx d) (.v (.v ak [.b y]))) (dw o (.kl []))) (⟨[qx d],(dw o (.kl [])).map (·.1)⟩::lg) K
     bif x then(bif want then perform ai else skip ai)else(bif want then skip ak else perform ak)
    | .v (.kl [])=>ops E all oq (i+1) rest (wr σ (dw o (.kl []))) (⟨[qx d],(dw o (.kl [])).map (·.1)⟩::lg) K
    |_=>aj
def ddA(acc:az aF):az aF->az aF
 |[]=>acc|n::r=>bif mO n acc then ddA acc r else ddA (n::acc) r
def m8{R:Type}:az aF->(az aF->R)->R
 |[],f=>f []|n::r,f=>m8 r λr=>f (n::r)
def Bw{R:Type}:az (az aF)->(az (az aF)->R)->R
 |[],f=>f []|n::r,f=>m8 n λn=>Bw r λr=>f (n::r)
theorem o0{R:Type}:∀(l:az aF) (f:az aF->R),m8 l f=f l
 |[],_=>rfl
 |n::r,f=>by simp only[m8,o0 r]
theorem Cu{R:Type}:∀(l:az (az aF)) (f:az (az aF)->R),Bw l f=f l
 |[],_=>rfl
 |n::r,f=>by simp only[Bw,o0,Cu r]
theorem GY:∀(l acc:az aF) (x:aF),x∈ddA acc l->x∈acc\/x∈l
 |[],_,_,h=> .inl h
 |n::r,acc,x,h=>by
  unfold ddA at h;cases hb:mO n acc with
  |true=>
   rw[hb]at h;rcases GY r acc x h with h|h
   ·exact .inl h
   ·exact .inr (c7 _ h)
  |false=>
   rw[hb]at h;rcases GY r (n::acc) x h with h|h
   ·rcases cB.1 h with rfl|h
    ·exact .inr dq
    ·exact .inl h
   ·exact .inr (c7 _ h)
def GP:az (az aF)->az fC->az (az aF)
 |acc,[]=>acc
 |acc,o::r=>m8 (ddA [] (o.after.toList.flatMap λe=>bif mU .any e then e.on::acc.getD e.on []else [])) λx=>GP (acc++[x]) r
def JJ:aF->az fC->aX
 |_,[]=>ai
 |i,o::r=>(o.after.toList.all λe=> !Region.binds .any e||Nat.blt e.on i)&&JJ (i+1) r
def Cg(a b:Lg):aX:= !(rN a.ws b.ws&&rN a.ws b.rs&&rN b.ws a.rs)
def Bq(an:az aF)(j:aF)(a:Lg):aF->az Lg->aX
 |_,[]=>ai
 |i,b::r=>(mO i an|| !Cg a b)&&Bq an j a (i+1) r
def calm:aF->az (az aF)->az Lg->az Lg->aX
 |_,_,_,[]=>ai
 |j,an,done,a::r=>Bq (an.getD j []) j a 0 done&&calm (j+1) an (done++[a]) r
def Bv{R:Type}:az Lg->(az Lg->R)->R
 |[],f=>f []|a::r,f=>m8 a.rs λrs=>m8 a.ws λws=>Bv r λr=>f (⟨rs,ws⟩::r)
theorem Ct{R:Type}:∀(l:az Lg) (f:az Lg->R),Bv l f=f l
 |[],_=>rfl
 |n::r,f=>by simp only[Bv,o0,Ct r]
def Na(an:az (az aF))(l:az Lg):aX:=Bw an λan=>Bv l λl=>calm 0 an [] l
theorem Sn(an:az (az aF))(l:az Lg):Na an l=calm 0 an [] l:=by simp only[Na,Cu,Ct]
def bS:AV->az aF
 | .own n=>[n]| .vw n _ _=>[n]| .bp n _=>[n]| .rp n _ _=>[n]| .inn n _ _=>[n]| .ip n _ _ _ _=>[n]|_=>[]
def cO:SV->az aF
 | .v _ xs=>xs.flatMap bS| .kl l=>l.flatMap λ(_,xs)=>xs.flatMap bS| .un=>[]
def Xa:az aF->az aF->az aF
 |l,[]=>l
 |l,n::r=>m8 (bif mO n l then l else l++[n]) λl=>Xa l r
def slot(σ:St)(n:aF):SV:=match σ (qx n)with| .v x=>x|_=> .un
def aj5(σ:St)(nm:aF):az aF:=match σ (c8 nm)with| .o (.box xs)=>xs.flatMap bS|_=>[]
def idx(n:aF):aF->az aF->aC aF
 |_,[]=>aj|i,m::r=>bif bD n m then ah i else idx n (i+1) r
def enc(f:aX)(k:aF):aF:=bif f then k*1000+999 else k
def wq(l:az aF)(n:aF):aC aF:=bif fK 900000000 n then(bif mO n l then ah n else aj)else(match idx n 0 l with|some k=>ah (enc (zH n) k)|none=>aj)
def qa(l:az aF)(a:AV):AV:=
 match a with
 | .own n=>match wq l n with|some k=> .own k|none=> .nl
 | .vw n lo hi=>match wq l n with|some k=> .vw k lo hi|none=> .nl
 | .bp n j=>match wq l n with|some k=> .bp k j|none=> .nl
 | .rp n i j=>match wq l n with|some k=> .rp k i j|none=> .nl
 | .inn n i j=>match wq l n with|some k=> .inn k i j|none=> .nl
 | .ip n i j i2 j2=>match wq l n with|some k=> .ip k i j i2 j2|none=> .nl
 |a=>a
def zJ(l:az aF)(ns:az aF):aX:=ns.all λn=>mO n l
def Fv(l:az aF)(v:SV):SV:=
 bif zJ l (cO v)then(match v with
 | .v agg xs=> .v agg (xs.map (qa l))| .kl r=> .kl (r.map λ(g,xs)=>(g,xs.map (qa l)))| .un=> .un)else .un
def P8(l:az aF)(o:eT):eT:=
 match o with
 | .o (.box xs)=>bif zJ l (xs.flatMap bS)then .o (.box (xs.map (qa l)))else .o .dead
 | .o x=> .o x
 |_=> .o .dead
def fM:az (aF×eT)->St
 |[],_=> .j9
 |(k,c)::r,n=>bif bD n k then c else fM r n
def wk(σ:St)(l:az aF):az aF->az (aF×eT)
 |[]=>[]|n::r=>match wq l n with|some k=>(c8 k,P8 l (σ (c8 n)))::wk σ l r|none=>wk σ l r
def KK(keep:az aF)(σ:St):az aF:=
 m8 (Xa [] (keep.flatMap λn=>cO (slot σ n))) λl0=>m8 (Xa l0 (l0.flatMap (aj5 σ))) λl1=>Xa l1 (l1.flatMap (aj5 σ))
def KJ(keep:az aF)(σ:St)(l:az aF):az (aF×eT):=
 bif fK l.length 900 then keep.map (λn=>(qx n, .v (Fv l (slot σ n))))++wk σ l l else []
def Yc(x:aF):aX:=fK 1000000000000000 x
def ab2(x:aF):aF:=(x/1000000)%1000000000
def Ty(x:aF):aF:=(x/1000)%1000
def kTy(x:aF):aF:=x%1000
def kNm(x:aF):aF:=800000000+((x/1000)%1000000)*100
def Au{α:Type}(x:aF)(σ:St)(f:St->α):α:=
 match slot σ (ab2 x)with
 | .v ak [.bp nm 0]=>match σ (c8 nm),σ (c8 (kNm x))with
  | .o (.box xs), .j9=>match xs[Ty x]? with
   |some .nl=>pA (xs.set (Ty x) (.own (kNm x))) λys=>f (pS (pS σ (c8 nm) (.o (.box ys))) (c8 (kNm x)) (.o (.row (kTy x) ai [])))
   |_=>f σ
  |_,_=>f σ
 |_=>f σ
def NR{α:Type}:az aF->St->(St->α)->α
 |[],σ,f=>f σ
 |x::r,σ,f=>bif Yc x then Au x σ (λσ=>NR r σ f)else NR r σ f
def KL(keep:az aF)(σ:St):az (aF×eT):=NR keep σ λσ=>m8 (keep.filter λx=> !Yc x) λkeep=>m8 (KK keep σ) λl=>KJ keep σ l
def canon(keep:az aF)(σ:St):St:=fM (KL keep σ)
def fQ.Aq(E:fQ)(n:aF):az aF:=(E.keep n).filter λx=>bif Yc x then(match E.ty (kTy x)with|some _=>ai|none=>ak)else ai
def gH:Code->aF
 | .region id _ _=>id| .seq a _=>gH a| .block _ c=>gH c| .scope c=>gH c|_=>0
def Fg{R:Type}(g:St->aC R)(cn:St->St)(K:Ex->St->aC R):Ex->St->aC R
 | .normal,σ=>g (cn σ)
 |e,σ=>K e (cn σ)
def iter{R:Type}(f:St->(Ex->St->aC R)->aC R)(cn:St->St):aF->St->(Ex->St->aC R)->aC R
 |0,_,_=>aj
 |n+1,σ,K=>f σ (Fg (λs=>iter f cn n s K) cn K)
theorem PF{R:Type}(f:St->(Ex->St->aC R)->aC R)(cn:St->St)(n:aF)(σ:St)(K:Ex->St->aC R):iter f cn (n+1) σ K=f σ (Fg (λs=>iter f cn n s K) cn K):=rfl
abbrev It(R:Type):=aF->(St->(Ex->St->aC R)->aC R)->(St->St)->az (aF×eT)->(Ex->St->aC R)->aC R
def awR{R:Type}(n:aF):It R:=λ_ f cn L K=>iter f cn n (fM L) K
def avA{R:Type}(f:St->(Ex->St->aC R)->aC R)(K:Ex->St->aC R):Ex->St->aC R
 | .normal,σ=>f σ K
 |e,σ=>K e σ
def ark{R:Type}(id:aF)(K:Ex->St->aC R):Ex->St->aC R
 | .exit j,σ=>bif bD j id then K .normal σ else K (.exit j) σ
 |e,σ=>K e σ
def tF{R:Type}(E:fQ)(it:It R):Code->St->(Ex->St->aC R)->aC R
 | .skip,σ,K=>K .normal σ
 | .region id os draw,σ,K=>ops E os id 0 os.toList σ [] λσ lg=>bif !draw||(JJ 0 os.toList&&Na (GP [] os.toList) lg.reverse)then K .normal σ else aj
 | .seq a b,σ,K=>tF E it a σ (avA (tF E it b) K)
 | .cond c a b,σ,K=>match c with
  | .tmp t=>match σ (qx t)with
   | .v (.v ak [.b x])=>bif x then(tF E it a (pS σ (qx t) (.v (.v ak [.b ai]))) K)else(tF E it b (pS σ (qx t) (.v (.v ak [.b ak]))) K)
   |_=>aj
  |_=>aj
 | .block id c,σ,K=>tF E it c σ (ark id K)
 | .loop c,σ,K=>it (gH c) (tF E it c) (canon (E.Aq (gH c))) (KL (E.Aq (gH c)) σ) K
 | .exit id,σ,K=>K (.exit id) σ
 | .ret,σ,K=>K .ret σ
 |_,_,_=>aj
def jZ:Code->az Code
 | .seq a b=>jZ a++jZ b
 | .cond _ a b=>jZ a++jZ b
 | .block _ c=>jZ c
 | .loop c=>c::jZ c
 |_=>[]
def CG(oq:aF):Code->aC Code
 | .seq a b=>match CG oq a with|some r=>ah r|none=>CG oq b
 | .cond _ a b=>match CG oq a with|some r=>ah r|none=>CG oq b
 | .block _ c=>CG oq c
 | .loop c=>bif bD (gH c) oq then ah c else CG oq c
 |_=>aj
def bX(F:Func)(oq:aF):Code:=((F.body.bind (CG oq)).getD .skip)
end Go.FG

namespace Go.FG
def dS(p j:aF):aF:=900000000+p*1000+j
def lD(nm:aF)(a:AA):AV:=
 match a with
 | .i k n=> .i k n| .b x=> .b x| .s x=> .s x| .sh e xs=> .sh e xs| .nl=> .nl
 | .ow _ _ _=> .own nm| .kp _=> .nl| .fn f iX=> .fn f iX
def Ff(nm:aF)(a:AA):az (aF×eT):=match a with| .ow e ex xs=>[(c8 nm, .o (.row e ex xs))]|_=>[]
def gz(nm:aF):az AA->az AV
 |[]=>[]|a::r=>lD nm a::gz (nm+1) r
def tL(nm:aF):az AA->az (aF×eT)
 |[]=>[]|a::r=>Ff nm a++tL (nm+1) r
def tM(p:aF)(a:fw):SV:=
 match a with
 | .v agg xs=> .v agg (gz (dS p 0) xs)
 | .pt _=> .v ak [.bp (dS p 900) 0]
 | .fb xs=> .v ak [.fp xs 0]
def vB(p:aF)(a:fw):az (aF×eT):=
 match a with
 | .v _ xs=>tL (dS p 0) xs
 | .pt xs=>(c8 (dS p 900), .o (.box (gz (dS p 0) xs)))::tL (dS p 0) xs
 | .fb _=>[]
def Lm:aF->az fw->az (aF×eT)
 |_,[]=>[]|p,a::r=>(qx p, .v (tM p a))::vB p a++Lm (p+1) r
def inj(args:az fw):St:=fM (Lm 0 args)
def Am(E:fQ)(e:aF):aX:=match E.ty e with|some _=>ai|none=>ak
def Al(E:fQ)(om:Om)(σ:St)(k:Ck)(a:AV):aC (AA×az aF×az aF):=
 match a with
 | .i k n=>ah (.i k n,[],[])| .b x=>ah (.b x,[],[])| .s x=>ah (.s x,[],[])
 | .sh e xs=>match om with| .own _=>aj|_=>ah (.sh e xs,[],[])
 | .nl=>match om with
  | .own e=>bif Am E e then ah (.ow e ai [],[],[])else aj
  | .sh e=>ah (.sh e [],[],[])
  | .nat=>match k with| .l e=>bif Am E e then ah (.ow e ai [],[],[])else aj|_=>ah (.nl,[],[])
 | .own nm=>match σ (c8 nm)with
  | .o (.row e ex xs)=>match om with| .sh _=>ah (.sh e xs,[],[nm])|_=>ah (.ow e ex xs,[nm],[])
  | .o (.fT e xs)=>match om with| .own _=>aj|_=>ah (.sh e xs,[],[])
  |_=>aj
 | .vw nm lo hi=>match σ (c8 nm)with
  | .o (.row e ex xs)=>match om with| .sh _=>ah (.sh e (eA xs lo hi),[],[nm])|_=>ah (.ow e ex (eA xs lo hi),[nm],[])
  | .o (.fT e xs)=>match om with| .own _=>aj|_=>ah (.sh e (eA xs lo hi),[],[])
  |_=>aj
 |_=>aj
def tH(E:fQ)(q:aF)(σ:St):aF->az Ck->az AV->aC (az AA×az aF×az aF)
 |_,_,[]=>ah ([],[],[])
 |j,ks,a::r=>match Al E (E.om q j) σ (ks.headD .o) a,tH E q σ (j+1) ks.tail r with
  |some (x,l,m),ah (xs,ls,ms)=>ah (x::xs,l++ls,m++ms)
  |_,_=>aj
def Ns(E:fQ)(q:aF)(σ:St)(ks:az Ck)(v:SV):aC (fw×az aF×az aF):=
 match v with
 | .v ak [.bp nm 0]=>match σ (c8 nm)with
  | .o (.box xs)=>match tH E q σ 0 [] xs with|some (l,ns,ms)=>ah (.pt l,nm::ns,ms)|none=>aj
  |_=>aj
 | .v agg xs=>match tH E q σ 0 ks xs with|some (l,ns,ms)=>ah (.v agg l,ns,ms)|none=>aj
 |_=>aj
def U0(E:fQ)(q:aF)(σ:St)(r:ResultVar)(t:aF):aC (fw×az aF×az aF):=
 match E.ty t with
 |none=>aj
 |some ti=>match r with
  | .tmp s=>Ns E q σ ti.ks (slot σ s)
  | .cell a t'=>match E.ty t',slot σ a with
   |some VU, .v ak [.bp nm 0]=>match σ (c8 nm)with| .o (.box xs)=>bif bD xs.length VU.ks.length then Ns E q σ ti.ks (.v VU.agg xs)else aj|_=>aj
   |_,_=>aj
def C4(E:fQ)(σ:St):aF->az ResultVar->az aF->aC (az fw×az aF×az aF)
 |_,[],_=>ah ([],[],[])
 |q,r::rs,ts=>match U0 E q σ r (ts.headD 0),C4 E σ (q+1) rs ts.tail with
  |some (a,l,m),ah (as,ls,ms)=>ah (a::as,l++ls,m++ms)
  |_,_=>aj
def JW(a b:aX):aX:=bif a then b else !b
def nH(σ:St)(tk:az aF)(nm:aF)(a:AA):AA×az aF:=
 match a with
 | .ow e ex _=>bif mO nm tk then(.nl,[])else(match σ (c8 nm)with| .o (.row e' uE xs)=>bif bD e e'&&JW ex uE then(.kp xs,[nm])else(.nl,[])|_=>(.nl,[]))
 |_=>(.nl,[])
def pZ(σ:St)(tk:az aF)(nm:aF):az AA->az AA×az aF
 |[]=>([],[])|a::r=>((nH σ tk nm a).1::(pZ σ tk (nm+1) r).1,(nH σ tk nm a).2++(pZ σ tk (nm+1) r).2)
def aa0(E:fQ)(om:Om)(σ:St)(nm:aF)(b:AA)(a:AV):aC (AA×az aF×az aF):=
 match om,b,a with
 | .nat, .ow e ex _, .own n=>bif bD n nm then(match σ (c8 n)with| .o (.row e' uE xs)=>bif bD e e'&&JW ex uE then ah (.kp xs,[n],[])else aj|_=>aj)else Al E om σ .o a
 |_,_,a=>Al E om σ .o a
def GV(E:fQ)(q:aF)(σ:St):aF->az AA->az AV->aC (az AA×az aF×az aF)
 |_,_,[]=>ah ([],[],[])
 |j,bs,a::r=>match aa0 E (E.om q j) σ (dS q j) (bs.headD .nl) a,GV E q σ (j+1) bs.tail r with
  |some (x,l,m),ah (xs,ls,ms)=>ah (x::xs,l++ls,m++ms)
  |_,_=>aj
def SU:az AA->aX
 |[]=>ak| .ow _ _ _::_=>ai|_::r=>SU r
def CX(E:fQ)(σ:St)(tk:az aF):aF->az fw->aC (az (az AA)×az aF×az aF)
 |_,[]=>ah ([],[],[])
 |p,a::r=>match CX E σ tk (p+1) r with
  |none=>aj
  |some (l,ns,ms)=>match a with
   | .v _ xs=>bif SU xs then ah ((pZ σ tk (dS p 0) xs).1::l,(pZ σ tk (dS p 0) xs).2++ns,ms)else ah ([]::l,ns,ms)
   | .pt xs=>match σ (c8 (dS p 900))with
    | .o (.box vs)=>match GV E p σ 0 xs vs with|some (as,ns',ms')=>ah (as::l,dS p 900::(ns'++ns),ms'++ms)|none=>aj
    |_=>aj
   | .fb _=>ah ([]::l,ns,ms)
def uD:az (az AA)->az (az AA)
 |[]=>[]
 |x::r=>match x,uD r with|[],[]=>[]|x,r=>x::r
def fin(E:fQ)(F:Func)(args:az fw)(e:Ex)(σ:St):aC dA:=
 match e with
 | .exit _=>aj
 |_=>match C4 E σ 500 F.results.toList F.resultTypes.toList with
  |some (rs,tk,fz)=>match CX E σ (tk++fz) 0 args with
   |some (outs,ns,ms)=>bif tT (tk++ns)&&rN (tk++ns) (fz++ms)&&fK args.length 500&&(args.all λa=>fK (nF a) 100)&&(rs.all λa=>fK (nF a) 100)&&(outs.all λa=>fK a.length 100)then ah ⟨rs,uD outs⟩else aj
   |none=>aj
  |none=>aj
def body(E:fQ)(it:It dA)(F:Func)(args:az fw):aC dA:=
 match F.body with
 |some c=>tF E it c (inj args) (fin E F args)
 |none=>aj
end Go.FG

namespace Go.FG
structure Pl where
 nil:aX
 blk:aF
 off:aF
 cap:aF
 n:aF
 sz:aF
def lW(p:Pl):bk:=if p.nil=ai then .slice aj 0 0 else .slice (ah ⟨p.blk,p.off,aj⟩) p.n p.cap
def n8(w:bL)(b:aF)(vals:du bk):Prop:=
 ∃t fr,w.heap[b]? =ah (.cells vals t fr)/\∀o,o<=vals.size->(decide (fr.1<=o)&&decide (o<fr.2))=ak
def Qg:CV->bk
 | .i k n=> .int k n| .b x=> .bool x| .s x=> .string x| .l _ _=> .nilIface
def Ec(x:aq):Prop:=x.size<=4611686018427387904
def okC:CV->Prop
 | .s x=>Ec x|_=>True
def Sc(u:bk)(x:CV):Prop:=u=Qg x/\okC x
structure e9 where
 P:aF->Pl
 G:aF->aF->aF->Pl
 K:aF->Prop
abbrev ad(b o:aF):Addr:=⟨b,o,aj⟩
inductive c_ (E:Tab) (w:bL) (K:aF->Prop):bk->CV->Prop
 |i (k n):c_ E w K (.int k n) (.i k n)
 |b (x):c_ E w K (.bool x) (.b x)
 |s (x) (h:Ec x):c_ E w K (.string x) (.s x)
 |nl (e A c):c_ E w K (.slice A 0 c) (.l e [])
 |l (e xs b o c ti) (U:aF->aF->bk) (ht:E.ty e=ah ti) (hc:xs.length<=c) (hm:c<=maxLen) (hK:K b) (hs:∀y∈xs,y.map CV.kd=ti.ks)
  (hcell:∀i j y x,xs[i]? =ah y->y[j]? =ah x->w.cell? (ad b (o+i*ti.ks.length+j))=ah (U i j))
  (gg:∀i j y x,xs[i]? =ah y->y[j]? =ah x->c_ E w K (U i j) x):c_ E w K (.slice (ah (ad b o)) xs.length c) (.l e xs)
theorem n8.cell{w:bL}{b:aF}{vals:du bk}(h:n8 w b vals)(o:aF):w.cell? (ad b o)=vals[o]? :=by obtain⟨t,fr,h,_⟩:=h;simp[World.cell?,h]
theorem n8.lt{w:bL}{b:aF}{vals:du bk}(h:n8 w b vals):b<w.heap.size:=by obtain⟨t,fr,h,_⟩:=h;exact(dU.1 h).1
theorem n8.free{w:bL}{b:aF}{vals:du bk}(h:n8 w b vals){o:aF}(ho:o<vals.size):w.frozen? (ad b o)=false:=by obtain⟨t,fr,h,hf⟩:=h;have:=hf o (Nat.le_of_lt ho);simpa [World.frozen?,h]using this
theorem n8.frame{w w':bL}{b:aF}{vals:du bk}(h:n8 w b vals)(e:w'.heap[b]? =w.heap[b]?):n8 w' b vals:=by obtain⟨t,fr,h,hf⟩:=h;exact⟨t,fr,e.trans h,hf⟩
theorem c_.frame{E:Tab}{w w':bL}{K K':aF->Prop}{v:bk}{x:CV}(h:c_ E w K v x)(hw:∀b,K b->w'.heap[b]? =w.heap[b]?)(hK:∀b,K b->K' b):c_ E w' K' v x:=by
 induction h with
 |i=>exact .i _ _
 |b=>exact .b _
 |s x h=>exact .s _ h
 |nl=>exact .nl _ _ _
 |l e xs b o c ti U ht hc hm hKb hs hcell gg ih=>exact .l e xs b o c ti U ht hc hm (hK b hKb) hs (λi j y x h1 h2=>(uX (a:=ad b _) (hw b hKb)).trans (hcell i j y x h1 h2)) (λi j y x h1 h2=>ih i j y x h1 h2)
structure jl (w:bL) (p:Pl) (xs:aR) (R:aF->aF->bk->CV->Prop):Prop where
 n:p.n=xs.length
 nil:p.nil=ai->xs=[]/\p.cap=0
 mem:p.nil=ak->∃vals,n8 w p.blk vals/\p.n<=p.cap/\p.cap<=maxLen/\p.off+p.cap*p.sz<=vals.size/\
  ∀(i:aF) (y:az CV) (j:aF) (x:CV),xs[i]? =ah y->y[j]? =ah x->∃u:bk,vals[p.off+i*p.sz+j]? =ah u/\R i j u x
def XC(E:Tab)(w:bL)(G:aF->aF->Pl)(i j:aF)(u:bk):CV->Prop
 | .l e ys=>u=lW (G i j)/\∃ti,E.ty e=ah ti/\plain ti.ks=ai/\(G i j).sz=ti.ks.length/\(∀y∈ys,y.map CV.kd=ti.ks)/\jl w (G i j) ys (λ_ _ u x=>Sc u x)
 |x=>Sc u x
def uH:CV->aX| .l _ _=>ai|_=>ak
def gj(xs:aR)(i j:aF):Prop:=∃y x,xs[i]? =ah y/\y[j]? =ah x/\uH x=ai
structure FY (p:Pl) (G:aF->aF->Pl) (xs:aR):Prop where
 out:∀i j,gj xs i j->(G i j).nil=ak->p.nil=ak->(G i j).blk≠p.blk
 one:∀i j i' j',gj xs i j->gj xs i' j'->(G i j).nil=ak->(G i' j').nil=ak->(G i j).blk=(G i' j').blk->i=i'/\j=j'
structure MN (E:Tab) (w:bL) (c:e9) (nm e:aF) (ex:aX) (xs:aR):Prop where
 sh:∃ti,E.ty e=ah ti/\(c.P nm).sz=ti.ks.length/\∀y∈xs,y.map CV.kd=ti.ks
 at_:jl w (c.P nm) xs (λi j u x=>if ex=ai then XC E w (c.G nm) i j u x else c_ E w c.K u x)
 inn:ex=ai->FY (c.P nm) (c.G nm) xs
def FB(E:Tab)(w:bL)(K:aF->Prop)(b:aF)(cs:az CV):Prop:=
 K b/\∀(q:aF) (x:CV),cs[q]? =ah x->∃u:bk,w.cell? (ad b q)=ah u/\c_ E w K u x
def w8(p:Pl)(lo hi:aF)(v:bk):Prop:=
 lo<=hi/\hi<=p.n/\(p.nil=ai->v= .slice aj 0 0)/\
 (p.nil=ak->(lo<p.cap/\v= .slice (ah (ad p.blk (p.off+lo*p.sz))) (hi-lo) (p.cap-lo))\/(lo=p.cap/\∃o,o<=p.off+p.cap*p.sz/\v= .slice (ah (ad p.blk o)) 0 0))
def eM(E:Tab)(w:bL)(c:e9):AV->bk->Prop
 | .i k n,v=>v= .int k n
 | .b x,v=>v= .bool x
 | .s x,v=>v= .string x/\Ec x
 | .sh e xs,v=>c_ E w c.K v (.l e xs)
 | .nl,v=>v= .slice aj 0 0
 | .own nm,v=>v=lW (c.P nm)
 | .vw nm lo hi,v=>w8 (c.P nm) lo hi v
 | .bp nm j,v=>v= .pointer (ah (ad (c.P nm).blk j))
 | .rp nm i j,v=>i<(c.P nm).n/\v= .pointer (ah (ad (c.P nm).blk ((c.P nm).off+i*(c.P nm).sz+j)))
 | .sp e xs i j,v=>∃b o cp ti,c_ E w c.K (.slice (ah (ad b o)) xs.length cp) (.l e xs)/\i<xs.length/\E.ty e=ah ti/\v= .pointer (ah (ad b (o+i*ti.ks.length+j)))
 | .inn nm i j,v=>(i<(c.P nm).n/\v=lW (c.G nm i j))/\zH nm=ak
 | .ip nm i j i2 j2,v=>(i<(c.P nm).n/\i2<(c.G nm i j).n/\v= .pointer (ah (ad (c.G nm i j).blk ((c.G nm i j).off+i2*(c.G nm i j).sz+j2))))/\zH nm=ak
 | .fn f iX,v=>∃ps:du bk,v= .func (.func f) #[] ps/\ps.size=iX.length/\∀(q:aF) (cs:az CV),iX[q]? =ah cs->∃b:aF,ps[q]? =ah (.pointer (ah (ad b 0)))/\FB E w c.K b cs
 | .fp cs j,v=>∃b,v= .pointer (ah (ad b j))/\FB E w c.K b cs
def qq(E:Tab)(w:bL)(c:e9)(agg:aX)(xs:az AV)(v:bk):Prop:=
 match agg,xs with
 |false,[a]=>eM E w c a v
 |true,xs=>∃vals:du bk,v= .agg vals/\vals.size=xs.length/\∀(j:aF) (a:AV),xs[j]? =ah a->∃u:bk,vals[j]? =ah u/\eM E w c a u
 |_,_=>False
def jm(E:Tab)(w:bL)(c:e9):SV->bk->Prop
 | .v agg xs,v=>qq E w c agg xs v
 | .kl l,v=>∃vs:du bk,v= .tuple vs/\vs.size=l.length/\∀(j:aF) (agg:aX) (xs:az AV),l[j]? =ah (agg,xs)->∃u:bk,vs[j]? =ah u/\qq E w c agg xs u
 | .un,_=>True
def pU(E:Tab)(w:bL)(c:e9)(nm:aF):Obj->Prop
 | .box xs=>∃vals,n8 w (c.P nm).blk vals/\vals.size=xs.length/\∀(j:aF) (a:AV),xs[j]? =ah a->∃u:bk,vals[j]? =ah u/\eM E w c a u
 | .od cs=>FB E w c.K (c.P nm).blk cs
 | .row e ex xs=>MN E w c nm e ex xs
 | .fT e xs=>c_ E w c.K (lW (c.P nm)) (.l e xs)/\(c.P nm).n=xs.length/\∃ti,E.ty e=ah ti/\(c.P nm).sz=ti.ks.length
 | .dead=>True
def fL(c:e9)(nm:aF):Obj->aF->Prop
 | .box _,b=>b=(c.P nm).blk
 | .row _ ex xs,b=>((c.P nm).nil=ak/\b=(c.P nm).blk)\/(ex=ai/\∃i j,gj xs i j/\(c.G nm i j).nil=ak/\b=(c.G nm i j).blk)
 |_,_=>False
def wO(σ:St)(c:e9)(b:aF):Prop:=∃nm o,σ (c8 nm)= .o o/\fL c nm o b
def jj(σ:St)(a:AV):Prop:=∀n∈bS a,σ (c8 n)≠ .j9
def mV(σ:St)(v:SV):Prop:=∀n∈cO v,σ (c8 n)≠ .j9
structure Ok (E:Tab) (σ:St) (w:bL) (c:e9):Prop where
 obj:∀nm o,σ (c8 nm)= .o o->pU E w c nm o
 sep:∀nm o xU o' b,σ (c8 nm)= .o o->σ (c8 xU)= .o o'->fL c nm o b->fL c xU o' b->nm=xU
 kk:∀nm o b,σ (c8 nm)= .o o->fL c nm o b->¬c.K b
 lt:∀b,c.K b->b<w.heap.size
 kn:∀nm xs,σ (c8 nm)= .o (.box xs)->∀a∈xs,jj σ a
structure fE (E:Tab) (σ:St) (a:Act) (w:bL) (c:e9):Prop where
 ok:∀n,jm E w c (slot σ n) (a.eval (.tmp n))
 kn:∀n,mV σ (slot σ n)
 df:a.defers=[]
def jI(σ:St)(c c':e9):Prop:=∀nm,(σ (c8 nm)≠ .j9\/900000000<=nm)->c'.P nm=c.P nm/\c'.G nm=c.G nm
def rk(σ:St)(c c':e9):Prop:=∀nm,(σ (c8 nm)≠ .j9\/900000000<=nm)->c'.P nm=c.P nm/\(zH nm=ak->c'.G nm=c.G nm)
theorem jI.w{σ:St}{c c':e9}(h:jI σ c c'):rk σ c c':=λnm hn=>⟨(h nm hn).1,λ_=>(h nm hn).2⟩
structure oG (σ:St) (c:e9) (w:bL) (σ':St) (c':e9) (w':bL):Prop where
 os:w'.os=w.os
 tape:w'.tape=w.tape
 output:w'.output=w.output
 size:w.heap.size<=w'.heap.size
 K:∀b,c.K b->c'.K b
 same:∀b,b<w.heap.size->¬wO σ c b->w'.heap[b]? =w.heap[b]?
 own:∀b,wO σ' c' b->wO σ c b\/w.heap.size<=b
 kn:∀b,c'.K b->c.K b\/wO σ c b\/w.heap.size<=b
theorem wO.lt{E:Tab}{σ:St}{w:bL}{c:e9}(h:Ok E σ w c){b:aF}(ho:wO σ c b):b<w.heap.size:=by
 obtain⟨nm,o,h1,h2⟩:=ho;have m9:=h.obj nm o h1;cases o with
 |box xs=>obtain⟨vals,hb,_⟩:=m9;cases h2;exact hb.lt
 |od=>exact h2.elim
 |fT=>exact h2.elim
 |dead=>exact h2.elim
 |row e ex xs=>
  rcases h2 with ⟨hn,rfl⟩|⟨hex,i,j,⟨y,x,hy,hx,hl⟩,hn,rfl⟩
  ·obtain⟨vals,hb,_⟩:=m9.at_.mem hn;exact hb.lt
  ·by_cases hp:(c.P nm).nil=ai
   ·have:=(m9.at_.nil hp).1;subst this;simp at hy
   ·obtain⟨vals,hb,_,_,_,hc⟩:=m9.at_.mem (by simpa using hp);obtain⟨u,_,hu⟩:=hc i y j x hy hx;rw[bz hex]at hu;cases x with
    |l e2 ys=>obtain⟨_,ti,_,_,_,_,hr⟩:=hu;obtain⟨v2,E_,_⟩:=hr.mem hn;exact E_.lt
    |i=>simp[uH]at hl
    |b=>simp[uH]at hl
    |s=>simp[uH]at hl
theorem Ok.JF{E:Tab}{σ:St}{w:bL}{c:e9}(h:Ok E σ w c){b:aF}(ho:wO σ c b):¬c.K b:=by obtain⟨nm,o,h1,h2⟩:=ho;exact h.kk nm o b h1 h2
theorem oG.refl(σ:St)(c:e9)(w:bL):oG σ c w σ c w:=
 ⟨rfl,rfl,rfl,cF _,λ_ h=>h,λ_ _ _=>rfl,λ_ h=> .inl h,λ_ h=> .inl h⟩
theorem oG.trans{σ σ1 σ2:St}{c c1 c2:e9}{w w1 w2:bL}(h:oG σ c w σ1 c1 w1)(k:oG σ1 c1 w1 σ2 c2 w2):oG σ c w σ2 c2 w2 where
 os:=k.os.trans h.os
 tape:=k.tape.trans h.tape
 output:=k.output.trans h.output
 size:=dh h.size k.size
 K b hb:=k.K b (h.K b hb)
 same b hb hn:=(k.same b (jy hb h.size) (λho=>(h.own b ho).elim hn (λh=>by omega))).trans (h.same b hb hn)
 own b hb:=(k.own b hb).elim (h.own b) (λh1=> .inr (dh h.size h1))
 kn b hb:=by
  rcases k.kn b hb with h1|h1|h1
  ·exact h.kn b h1
  ·exact .inr (h.own b h1)
  ·exact .inr (.inr (dh h.size h1))
theorem oG.aas{E:Tab}{σ σ':St}{c c':e9}{w w':bL}(cf:Ok E σ w c)(h:oG σ c w σ' c' w'):∀b,c.K b->w'.heap[b]? =w.heap[b]? :=
 λb hb=>h.same b (cf.lt b hb) (λho=>cf.JF ho hb)
theorem FB.frame{E:Tab}{w w':bL}{K K':aF->Prop}{b:aF}{cs:az CV}(h:FB E w K b cs)(hw:∀b,K b->w'.heap[b]? =w.heap[b]?)(hK:∀b,K b->K' b):FB E w' K' b cs:=
 ⟨hK b h.1,λq x hq=>by
  obtain⟨u,hu,hh⟩:=h.2 q x hq;exact⟨u,(uX (a:=ad b q) (hw b h.1)).trans hu,hh.frame hw hK⟩⟩
theorem eM.pB{E:Tab}{w w':bL}{c c':e9}{a:AV}{v:bk}(h:eM E w c a v)(hw:∀b,c.K b->w'.heap[b]? =w.heap[b]?)(hK:∀b,c.K b->c'.K b)
  (hP:∀n∈bS a,c'.P n=c.P n/\(zH n=ak->c'.G n=c.G n)):eM E w' c' a v:=by
 cases a with
 |i=>exact h
 |b=>exact h
 |s=>exact h
 |nl=>exact h
 |sh e xs=>exact c_.frame h hw hK
 |own n=>have:=hP n (by simp[bS]);simp only[eM,this.1]at h⊢;exact h
 |vw n lo hi=>have:=hP n (by simp[bS]);simp only[eM,this.1]at h⊢;exact h
 |bp n j=>have:=hP n (by simp[bS]);simp only[eM,this.1]at h⊢;exact h
 |rp n i j=>have:=hP n (by simp[bS]);simp only[eM,this.1]at h⊢;exact h
 |inn n i j=>have h0:=hP n (by simp[bS]);have this:=h0.2 h.2;simp only[eM,h0.1,this]at h⊢;exact h
 |ip n i j i2 j2=>have h0:=hP n (by simp[bS]);have this:=h0.2 h.2;simp only[eM,h0.1,this]at h⊢;exact h
 |sp e xs i j=>obtain⟨b,o,cp,ti,h1,h2,h3,h4⟩:=h;exact⟨b,o,cp,ti,h1.frame hw hK,h2,h3,h4⟩
 |fn f iX=>obtain⟨ps,h1,h2,h3⟩:=h;exact⟨ps,h1,h2,λq cs hq=>by obtain⟨b,hb,hf⟩:=h3 q cs hq;exact⟨b,hb,hf.frame hw hK⟩⟩
 |fp cs j=>obtain⟨b,h1,h2⟩:=h;exact⟨b,h1,h2.frame hw hK⟩
theorem qq.pB{E:Tab}{w w':bL}{c c':e9}{agg:aX}{xs:az AV}{v:bk}(h:qq E w c agg xs v)(hw:∀b,c.K b->w'.heap[b]? =w.heap[b]?)(hK:∀b,c.K b->c'.K b)
  (hP:∀n∈xs.flatMap bS,c'.P n=c.P n/\(zH n=ak->c'.G n=c.G n)):qq E w' c' agg xs v:=by
 unfold qq at h⊢;split at h
 ·rename_i a;exact eM.pB h hw hK (λn hn=>hP n (by simpa using hn))
 ·obtain⟨vals,h1,h2,h3⟩:=h;refine⟨vals,h1,h2,λj a hj=> ?_⟩
  obtain⟨u,hu,hv⟩:=h3 j a hj;exact⟨u,hu,hv.pB hw hK (λn hn=>hP n (bQ.2 ⟨a,aQ hj,hn⟩))⟩
 ·exact h.elim
theorem jm.pB{E:Tab}{w w':bL}{c c':e9}{s:SV}{v:bk}(h:jm E w c s v)(hw:∀b,c.K b->w'.heap[b]? =w.heap[b]?)(hK:∀b,c.K b->c'.K b)
  (hP:∀n∈cO s,c'.P n=c.P n/\(zH n=ak->c'.G n=c.G n)):jm E w' c' s v:=by
 cases s with
 |un=>trivial
 |v agg xs=>exact qq.pB h hw hK hP
 |kl l=>
  obtain⟨vs,h1,h2,h3⟩:=h;refine⟨vs,h1,h2,λj agg xs hj=> ?_⟩
  obtain⟨u,hu,hv⟩:=h3 j agg xs hj;exact⟨u,hu,hv.pB hw hK (λn hn=>hP n (bQ.2 ⟨(agg,xs),aQ hj,hn⟩))⟩
theorem eM.frame{E:Tab}{w w':bL}{c c':e9}{a:AV}{v:bk}(h:eM E w c a v)(hw:∀b,c.K b->w'.heap[b]? =w.heap[b]?)(hK:∀b,c.K b->c'.K b)
  (hP:∀n∈bS a,c'.P n=c.P n/\c'.G n=c.G n):eM E w' c' a v:=h.pB hw hK (λn hn=>⟨(hP n hn).1,λ_=>(hP n hn).2⟩)
theorem qq.frame{E:Tab}{w w':bL}{c c':e9}{agg:aX}{xs:az AV}{v:bk}(h:qq E w c agg xs v)(hw:∀b,c.K b->w'.heap[b]? =w.heap[b]?)(hK:∀b,c.K b->c'.K b)
  (hP:∀n∈xs.flatMap bS,c'.P n=c.P n/\c'.G n=c.G n):qq E w' c' agg xs v:=h.pB hw hK (λn hn=>⟨(hP n hn).1,λ_=>(hP n hn).2⟩)
theorem jm.frame{E:Tab}{w w':bL}{c c':e9}{s:SV}{v:bk}(h:jm E w c s v)(hw:∀b,c.K b->w'.heap[b]? =w.heap[b]?)(hK:∀b,c.K b->c'.K b)
  (hP:∀n∈cO s,c'.P n=c.P n/\c'.G n=c.G n):jm E w' c' s v:=h.pB hw hK (λn hn=>⟨(hP n hn).1,λ_=>(hP n hn).2⟩)
theorem jl.frame{w w':bL}{p:Pl}{xs:aR}{R R':aF->aF->bk->CV->Prop}(h:jl w p xs R)(hw:p.nil=ak->w'.heap[p.blk]? =w.heap[p.blk]?)
  (hR:∀i j y x u,xs[i]? =ah y->y[j]? =ah x->R i j u x->R' i j u x):jl w' p xs R' where
 n:=h.n
 nil:=h.nil
 mem hn:=by
  obtain⟨vals,h1,h2,h3,h4,h5⟩:=h.mem hn;refine⟨vals,h1.frame (hw hn),h2,h3,h4,λi y j x hi hj=> ?_⟩
  obtain⟨u,hu,hr⟩:=h5 i y j x hi hj;exact⟨u,hu,hR i j y x u hi hj hr⟩
theorem XC.frame{E:Tab}{w w':bL}{G:aF->aF->Pl}{i j:aF}{u:bk}{x:CV}(h:XC E w G i j u x)(hw:uH x=ai->(G i j).nil=ak->w'.heap[(G i j).blk]? =w.heap[(G i j).blk]?):XC E w' G i j u x:=by
 cases x with
 |l e ys=>obtain⟨h1,ti,h2,h3,h4,h5,h6⟩:=h;exact⟨h1,ti,h2,h3,h4,h5,h6.frame (hw rfl) (λ_ _ _ _ _ _ _ h=>h)⟩
 |i=>exact h
 |b=>exact h
 |s=>exact h
theorem pU.frame{E:Tab}{w w':bL}{c c':e9}{nm:aF}{o:Obj}(h:pU E w c nm o)(hw:∀b,c.K b->w'.heap[b]? =w.heap[b]?)(hK:∀b,c.K b->c'.K b)
  (hf:∀b,fL c nm o b->w'.heap[b]? =w.heap[b]?) (hP:c'.P nm=c.P nm/\c'.G nm=c.G nm)
  (hPs:∀xs,o= .box xs->∀a∈xs,∀n∈bS a,c'.P n=c.P n/\(zH n=ak->c'.G n=c.G n)):pU E w' c' nm o:=by
 cases o with
 |dead=>trivial
 |box xs=>
  obtain⟨vals,h1,h2,h3⟩:=h;refine⟨vals, ?_,h2,λj a hj=> ?_⟩
  ·rw[hP.1];exact h1.frame (hf _ rfl)
  ·obtain⟨u,hu,hv⟩:=h3 j a hj;exact⟨u,hu,hv.pB hw hK (hPs xs rfl a (aQ hj))⟩
 |od cs=>show FB E w' c'.K (c'.P nm).blk cs;rw[hP.1];exact FB.frame h hw hK
 |fT e xs=>
  obtain⟨h1,h2,h3⟩:=h;refine⟨?_, ?_, ?_⟩
  ·rw[hP.1];exact h1.frame hw hK
  ·rw[hP.1];exact h2
  ·rw[hP.1];exact h3
 |row e ex xs=>
  obtain⟨h1,h2,h3⟩:=h;refine⟨by rw[hP.1];exact h1, ?_,by rw[hP.1,hP.2];exact h3⟩
  rw[hP.1,hP.2];refine h2.frame (λhn=>hf _ (.inl ⟨hn,rfl⟩)) (λi j y x u hi hj hr=> ?_);by_cases hx:ex=ai
  ·rw[bz hx]at hr⊢;exact hr.frame (λhl hn=>hf _ (.inr ⟨hx,i,j,⟨y,x,hi,hj,hl⟩,hn,rfl⟩))
  ·rw[bH hx]at hr⊢;exact hr.frame hw hK
end Go.FG

namespace Go.FG
theorem ug(s:St)(k:aF)(c:eT):pS s k c k=c:=by simp[pS]
theorem zY(s:St){k n:aF}(c:eT)(h:n≠k):pS s k c n=s n:=by
 have:bD n k=false:=by
  cases hb:bD n k with
  |false=>rfl
  |true=>exact cJ (aU hb) h
 simp[pS,this]
theorem se(n m:aF):qx n≠c8 m:=by unfold qx c8;omega
theorem mA(n m:aF):c8 n≠qx m:=by unfold qx c8;omega
theorem HI{n m:aF}(h:qx n=qx m):n=m:=by unfold qx at h;omega
theorem j4{n m:aF}(h:c8 n=c8 m):n=m:=by unfold c8 at h;omega
theorem J6(s:St)(d:aF)(c:eT)(m:aF):pS s (qx d) c (c8 m)=s (c8 m):=zY s c (mA m d)
theorem qd(s:St)(n:aF)(c:eT)(m:aF):pS s (c8 n) c (c8 m)=if m=n then c else s (c8 m):=by
 by_cases h:m=n
 ·subst h;simp[ug]
 ·rw[bH h];exact zY s c (λe=>h (j4 e))
theorem jt(s:St)(n:aF)(c:eT)(m:aF):slot (pS s (c8 n) c) m=slot s m:=by unfold slot;rw[zY s c (se m n)]
theorem yz(s:St)(d:aF)(v:SV)(m:aF):slot (pS s (qx d) (.v v)) m=if m=d then v else slot s m:=by
 by_cases h:m=d
 ·subst h;simp[slot,ug]
 ·rw[bH h];unfold slot;rw[zY s _ (λe=>h (HI e))]
theorem Qn(s:St)(l r:az (aF×eT)):wr s (l++r)=wr (wr s l) r:=by
 induction l generalizing s with
 |nil=>rfl
 |cons a l ih=>obtain⟨k,c⟩:=a;exact ih _
def Rd.val{α:Type}(m:Rd α)(σ:St):aC α:=(m.run σ []).map (·.1)
theorem lz{α:Type}(m:Rd α)(σ:St):∀l,(m.run σ l).map (·.1)=m.val σ:=by
 induction m with
 |ret a=>intro l;rfl
 |fail=>intro l;rfl
 |get k f ih=>intro l;simp only[Rd.run,Rd.val];rw[ih,ih]
theorem Rd.Me{α:Type}{m:Rd α}{σ:St}{l l':az aF}{a:α}(h:m.run σ l=ah (a,l')):m.val σ=ah a:=by rw[<-lz m σ l,h];rfl
@[simp] theorem Rd.ano {α:Type} (a:α) (σ:St):(Rd.ret a).val σ=some a:=rfl
@[simp] theorem Rd.amp {α:Type} (σ:St):(Rd.fail:Rd α).val σ=none:=rfl
@[simp] theorem Rd.BL {α:Type} (k:Nat) (f:eT->Rd α) (σ:St):(Rd.get k f).val σ=(f (σ k)).val σ:=by
 simp only[Rd.val,Rd.run];exact(lz (f (σ k)) σ [k])
@[simp] theorem Rd.VW {α β:Type} (m:Rd α) (f:α->Rd β) (σ:St):(m.bind f).val σ=(m.val σ).bind λa=>(f a).val σ:=by
 induction m with
 |ret a=>rfl
 |fail=>rfl
 |get k g ih=>simp only[Rd.bind,Rd.BL];exact ih _
theorem Rd.bind_some{α β:Type}{m:Rd α}{f:α->Rd β}{σ:St}{b:β}(h:(m.bind f).val σ=ah b):∃a,m.val σ=ah a/\(f a).val σ=ah b:=by rw[Rd.VW,Option.bind_eq_some_iff]at h;exact h
theorem cR{α:Type}{b:aX}{m:Rd α}{σ:St}{a:α}(h:(bif b then m else Rd.fail).val σ=ah a):b=ai/\m.val σ=ah a:=by
 cases b with
 |true=>exact⟨rfl,h⟩
 |false=>simp at h
def ka(Ch:aF->Prop)(σ:St)(c:e9)(b:aF):Prop:=∃nm o,Ch nm/\σ (c8 nm)= .o o/\fL c nm o b
theorem ka.own{Ch:aF->Prop}{σ:St}{c:e9}{b:aF}(h:ka Ch σ c b):wO σ c b:=by obtain⟨nm,o,_,h1,h2⟩:=h;exact⟨nm,o,h1,h2⟩
theorem my{c c':e9}{nm:aF}{o:Obj}(h:c'.P nm=c.P nm/\c'.G nm=c.G nm)(b:aF):fL c' nm o b=fL c nm o b:=by cases o<;>simp only[fL,h.1,h.2]
theorem Ok.xA{E:Tab}{σ σ':St}{w w':bL}{c c':e9}(h:Ok E σ w c)(Ch:aF->Prop)
  (hσ:∀nm,¬Ch nm->σ' (c8 nm)=σ (c8 nm)) (iB:∀nm,σ (c8 nm)≠ .j9->σ' (c8 nm)≠ .j9) (hA:rk σ c c') (hAG:∀nm,¬Ch nm->σ (c8 nm)≠ .j9->c'.G nm=c.G nm)
  (hW:∀b,b<w.heap.size->¬ka Ch σ c b->w'.heap[b]? =w.heap[b]?) (gh:w.heap.size<=w'.heap.size)
  (hK:∀b,c.K b->c'.K b) (Wt:∀b,c'.K b->c.K b\/ka Ch σ c b\/w.heap.size<=b) (Ha:∀b,c'.K b->b<w'.heap.size)
  (m9:∀nm o,Ch nm->σ' (c8 nm)= .o o->pU E w' c' nm o)
  (pY:∀nm o b,Ch nm->σ' (c8 nm)= .o o->fL c' nm o b->(ka Ch σ c b\/w.heap.size<=b)/\¬c'.K b)
  (S6:∀nm o xU o' b,Ch nm->Ch xU->σ' (c8 nm)= .o o->σ' (c8 xU)= .o o'->fL c' nm o b->fL c' xU o' b->nm=xU)
  (Ji:∀nm xs,Ch nm->σ' (c8 nm)= .o (.box xs)->∀a∈xs,jj σ' a)
  (PB:w'.os=w.os) (S7:w'.tape=w.tape) (afm:w'.output=w.output):Ok E σ' w' c'/\oG σ c w σ' c' w':=by
 have NU:∀nm o b,¬Ch nm->σ (c8 nm)= .o o->fL c nm o b->¬ka Ch σ c b:=by intro nm o b hc ho hf ⟨iG,o2,hc2,ho2,hf2⟩;exact hc (h.sep nm o iG o2 b ho ho2 hf hf2▸hc2)
 have agr:∀nm o,¬Ch nm->σ' (c8 nm)= .o o->σ (c8 nm)= .o o/\(c'.P nm=c.P nm/\c'.G nm=c.G nm):=by intro nm o hc ho;rw[hσ nm hc]at ho;exact⟨ho,(hA nm (.inl (by rw[ho];simp))).1,hAG nm hc (by rw[ho];simp)⟩
 have ajU:∀b,c.K b->w'.heap[b]? =w.heap[b]? :=λb hb=>hW b (h.lt b hb) (λhi=>h.JF hi.own hb);have lt:∀nm o b,σ (c8 nm)= .o o->fL c nm o b->b<w.heap.size:=λnm o b ho hf=>wO.lt h ⟨nm,o,ho,hf⟩;refine⟨⟨?_, ?_, ?_,Ha, ?_⟩,⟨PB,S7,afm,gh,hK, ?_, ?_, ?_⟩⟩
 ·intro nm o ho;by_cases hc:Ch nm
  ·exact m9 nm o hc ho
  ·obtain⟨vA,ha⟩:=agr nm o hc ho;refine(h.obj nm o vA).frame ajU hK (λb hb=>hW b (lt nm o b vA hb) (NU nm o b hc vA hb)) ha ?_;intro xs hx a hm n hn;exact hA n (.inl (h.kn nm xs (hx▸vA) a hm n hn))
 ·intro nm o xU o' b ho vA hf vu;by_cases hc:Ch nm
  ·by_cases Jc:Ch xU
   ·exact S6 nm o xU o' b hc Jc ho vA hf vu
   ·obtain⟨h1,ha⟩:=agr xU o' Jc vA;rw[my ha]at vu;rcases(pY nm o b hc ho hf).1 with hi|hi
    ·exact cJ hi (NU xU o' b Jc h1 vu)
    ·have:=lt xU o' b h1 vu;omega
  ·obtain⟨h1,ha⟩:=agr nm o hc ho;rw[my ha]at hf;by_cases Jc:Ch xU
   ·rcases(pY xU o' b Jc vA vu).1 with hi|hi
    ·exact cJ hi (NU nm o b hc h1 hf)
    ·have:=lt nm o b h1 hf;omega
   ·obtain⟨h2,ha'⟩:=agr xU o' Jc vA;rw[my ha']at vu;exact h.sep nm o xU o' b h1 h2 hf vu
 ·intro nm o b ho hf;by_cases hc:Ch nm
  ·exact(pY nm o b hc ho hf).2
  ·obtain⟨h1,ha⟩:=agr nm o hc ho;rw[my ha]at hf;intro hk;rcases Wt b hk with h2|h2|h2
   ·exact h.kk nm o b h1 hf h2
   ·exact NU nm o b hc h1 hf h2
   ·have:=lt nm o b h1 hf;omega
 ·intro nm xs ho a hm;by_cases hc:Ch nm
  ·exact Ji nm xs hc ho a hm
  ·obtain⟨h1,_⟩:=agr nm _ hc ho;intro n hn;exact iB n (h.kn nm xs h1 a hm n hn)
 ·intro b hb hn;exact hW b hb (λhi=>hn hi.own)
 ·rintro b ⟨nm,o,ho,hf⟩;by_cases hc:Ch nm
  ·exact(pY nm o b hc ho hf).1.imp ka.own id
  ·obtain⟨h1,ha⟩:=agr nm o hc ho;rw[my ha]at hf;exact .inl ⟨nm,o,h1,hf⟩
 ·intro b hb;rcases Wt b hb with h2|h2|h2
  ·exact .inl h2
  ·exact .inr (.inl h2.own)
  ·exact .inr (.inr h2)
theorem Ok.change{E:Tab}{σ σ':St}{w w':bL}{c c':e9}(h:Ok E σ w c)(Ch:aF->Prop)
  (hσ:∀nm,¬Ch nm->σ' (c8 nm)=σ (c8 nm)) (iB:∀nm,σ (c8 nm)≠ .j9->σ' (c8 nm)≠ .j9) (hA:jI σ c c')
  (hW:∀b,b<w.heap.size->¬ka Ch σ c b->w'.heap[b]? =w.heap[b]?) (gh:w.heap.size<=w'.heap.size)
  (hK:∀b,c.K b->c'.K b) (Wt:∀b,c'.K b->c.K b\/ka Ch σ c b\/w.heap.size<=b) (Ha:∀b,c'.K b->b<w'.heap.size)
  (m9:∀nm o,Ch nm->σ' (c8 nm)= .o o->pU E w' c' nm o)
  (pY:∀nm o b,Ch nm->σ' (c8 nm)= .o o->fL c' nm o b->(ka Ch σ c b\/w.heap.size<=b)/\¬c'.K b)
  (S6:∀nm o xU o' b,Ch nm->Ch xU->σ' (c8 nm)= .o o->σ' (c8 xU)= .o o'->fL c' nm o b->fL c' xU o' b->nm=xU)
  (Ji:∀nm xs,Ch nm->σ' (c8 nm)= .o (.box xs)->∀a∈xs,jj σ' a)
  (PB:w'.os=w.os) (S7:w'.tape=w.tape) (afm:w'.output=w.output):Ok E σ' w' c'/\oG σ c w σ' c' w':=
 h.xA Ch hσ iB hA.w (λnm _ hn=>(hA nm (.inl hn)).2) hW gh hK Wt Ha m9 pY S6 Ji PB S7 afm
theorem Ok.slot{E:Tab}{σ σ':St}{w:bL}{c:e9}(h:Ok E σ w c)(hσ:∀nm,σ' (c8 nm)=σ (c8 nm)):Ok E σ' w c/\oG σ c w σ' c w:=by
 refine⟨⟨λnm o ho=>h.obj nm o (hσ nm▸ho),λnm o xU o' b h1 h2=>h.sep nm o xU o' b (hσ nm▸h1) (hσ xU▸h2),λnm o b h1=>h.kk nm o b (hσ nm▸h1),h.lt,λnm xs ho a hm n hn=>by rw[hσ];exact h.kn nm xs (hσ nm▸ho) a hm n hn⟩,
  ⟨rfl,rfl,rfl,cF _,λ_ h=>h,λ_ _ _=>rfl,λb ⟨nm,o,ho,hf⟩=> .inl ⟨nm,o,hσ nm▸ho,hf⟩,λ_ h=> .inl h⟩⟩
theorem D1(a:Act)(d:aF)(v:bk)(h:d<a.tmps.size):(a.put (ah d) v).eval (.tmp d)=v:=by simp[Wf,Ia,h]
theorem IW(a:Act)(d n:aF)(v:bk)(h:n≠d):(a.put (ah d) v).eval (.tmp n)=a.eval (.tmp n):=by simp only[Wf,Ia,eP,ov];rw[bH (λe=>h e.symm)]
theorem fE.xA{E:Tab}{σ σ':St}{a:Act}{w w':bL}{c c':e9}(h:fE E σ a w c)(cf:Ok E σ w c)(hG:oG σ c w σ' c' w')(hA:rk σ c c')(iB:∀nm,σ (c8 nm)≠ .j9->σ' (c8 nm)≠ .j9)
  (o:fC) (v:bk) (hs:∀n,o.dst≠ah n->slot σ' n=slot σ n) (hd:∀d,o.dst=ah d->d<a.tmps.size/\jm E w' c' (slot σ' d) v/\mV σ' (slot σ' d)):fE E σ' (a.put o.dst v) w' c':=by
 have keep:∀n,jm E w' c' (slot σ n) (a.eval (.tmp n)):=λn=>(h.ok n).pB (hG.aas cf) hG.K (λm hm=>hA m (.inl (h.kn n m hm)));have ab4:∀n,mV σ' (slot σ n):=λn m hm=>iB m (h.kn n m hm);cases ho:o.dst with
 |none=>
  refine⟨λn=> ?_,λn=> ?_,h.df⟩
  ·rw[hs n (by simp[ho])];exact keep n
  ·rw[hs n (by simp[ho])];exact ab4 n
 |some d=>
  obtain⟨h1,h2,h3⟩:=hd d ho;refine⟨λn=> ?_,λn=> ?_,h.df⟩
  ·by_cases hn:n=d
   ·subst hn;rw[D1 a n v h1];exact h2
   ·rw[IW a d n v hn,hs n (by rw[ho];simpa using λe=>hn e.symm)];exact keep n
  ·by_cases hn:n=d
   ·subst hn;exact h3
   ·rw[hs n (by rw[ho];simpa using λe=>hn e.symm)];exact ab4 n
theorem fE.change{E:Tab}{σ σ':St}{a:Act}{w w':bL}{c c':e9}(h:fE E σ a w c)(cf:Ok E σ w c)(hG:oG σ c w σ' c' w')(hA:jI σ c c')(iB:∀nm,σ (c8 nm)≠ .j9->σ' (c8 nm)≠ .j9)
  (o:fC) (v:bk) (hs:∀n,o.dst≠ah n->slot σ' n=slot σ n) (hd:∀d,o.dst=ah d->d<a.tmps.size/\jm E w' c' (slot σ' d) v/\mV σ' (slot σ' d)):fE E σ' (a.put o.dst v) w' c':=
 h.xA cf hG hA.w iB o v hs hd
theorem sg(σ:St)(o:fC)(v:SV):(∀n,o.dst≠ah n->slot (wr σ (dw o v)) n=slot σ n)/\(∀d,o.dst=ah d->slot (wr σ (dw o v)) d=v)/\∀nm,wr σ (dw o v) (c8 nm)=σ (c8 nm):=by
 cases ho:o.dst with
 |none=>simp[dw,ho,wr]
 |some d=>
  refine⟨λn hn=> ?_,λd' hd=> ?_,λnm=> ?_⟩
  ·simp only[dw,ho,wr];rw[yz,bH (by rintro rfl;exact hn rfl)]
  ·cases hd;simp only[dw,ho,wr];rw[yz,bz rfl]
  ·simp only[dw,ho,wr];exact J6 _ _ _ _
end Go.FG

namespace Go.FG
def iN:Ck->bk
 | .i k=> .int k 0| .b=> .bool ak| .s=> .string ⟨#[]⟩| .l _=> .slice aj 0 0| .o=> .nilIface
def ma:AV->bk
 | .i k n=> .int k n| .b x=> .bool x| .s x=> .string x|_=> .nilIface
structure eH (P:c5) (E:Tab):Prop where
 info:∀t ti,E.ty t=ah ti->∃inf,P.info? t=ah inf/\inf.size=ti.ks.length/\inf.bytes=ti.bytes/\0<ti.ks.length/\
  (LB ti.ks=ai->∃z,inf.zero=ah z/\z.cells=(ti.ks.map iN).toArray/\(ti.agg=ai->z= .agg (ti.ks.map iN).toArray))
 desc:∀t ti,E.ty t=ah ti->∃d,P.underlying t=ah d/\
  (ti.agg=ai->∃fs,d= .struct fs/\∀f o n,E.fo t f=ah (o,n)->∃fd,fs[f]? =ah fd/\fd.offset=o/\(P.info? fd.type).map (·.size)=ah n/\n≠0/\o+n<=ti.ks.length)/\
  (ti.agg=ak->(∃k,ti.ks=[.i k]/\d= .int k)\/(ti.ks=[.b]/\d= .bool)\/(ti.ks=[.s]/\d= .string)\/(∃e,ti.ks=[.l e]/\d= .slice e)\/
   (ti.ks=[.o]/\(match d with| .struct _| .array _ _=>ak|_=>ai)=ai))
 fo:∀t f o n,E.fo t f=ah (o,n)->∃ti,E.ty t=ah ti/\ti.agg=ai
 pl:∀t ti,E.ty t=ah ti->ti.agg=ai->∀fs,P.underlying t=ah (.struct fs)->∃pl,fs.toList.mapM (λf=>(P.info? f.type).map λi=>(f.offset,i.size))=ah pl/\∀f o n,E.fo t f=ah (o,n)->pl[f]? =ah (o,n)
 eq:∀t ti,mO t E.eqs=ai->E.ty t=ah ti->∀(w:bL) (x y:dy) (xs ys:az AV) (r:aX),Xx xs ys=ah r->xs.map Hi=ti.ks->ys.map Hi=ti.ks->
  (do eqGuard .eql t x y (.agg (xs.map ma).toArray) (.agg (ys.map ma).toArray);binOp .eql t (.agg (xs.map ma).toArray) (.agg (ys.map ma).toArray)).run P w= .ok (.bool r) w/\
  (do eqGuard .neq t x y (.agg (xs.map ma).toArray) (.agg (ys.map ma).toArray);binOp .neq t (.agg (xs.map ma).toArray) (.agg (ys.map ma).toArray)).run P w= .ok (.bool !r) w
 fl:∀t f,E.SL t f=ai->∀fs fd,P.underlying t=ah (.struct fs)->fs[f]? =ah fd->∀w,(Go.isAgg fd.type).run P w= .ok ak w
theorem EU{v:bk}(h:v.oneCell'=ai):v.cells= #[v]:=by cases v<;>simp_all [Value.cells,Value.oneCell']
theorem eM.one{E:Tab}{w:bL}{c:e9}{a:AV}{v:bk}(h:eM E w c a v):v.oneCell'=true:=by
 cases a with
 |i=>cases h;rfl
 |b=>cases h;rfl
 |s=>cases h.1;rfl
 |nl=>cases h;rfl
 |sh e xs=>cases h<;>rfl
 |own n=>cases h;unfold lW;split<;>rfl
 |vw n lo hi=>
  obtain⟨_,_,h1,h2⟩:=h;by_cases hn:(c.P n).nil=ai
  ·rw[h1 hn];rfl
  ·rcases h2 (by simpa using hn)with ⟨_,h⟩|⟨_,o,_,h⟩<;>rw[h]<;>rfl
 |bp n j=>cases h;rfl
 |rp n i j=>rw[h.2];rfl
 |sp e xs i j=>obtain⟨_,_,_,_,_,_,_,h⟩:=h;rw[h];rfl
 |inn n i j=>rw[h.1.2];unfold lW;split<;>rfl
 |ip n i j i2 j2=>rw[h.1.2.2];rfl
 |fn f iX=>obtain⟨ps,h,_⟩:=h;rw[h];rfl
 |fp cs j=>obtain⟨b,h,_⟩:=h;rw[h];rfl
section
variable {P:c5} (w:bL)
theorem Addr.oa(b o i:aF):(ad b o).add i=ad b (o+i):=by unfold Addr.add ad;split<;>simp_all
theorem Eg(b o:aF):∀(vs:az bk) (i:aF) (w:bL) (cur:du bk),n8 w b cur->o+i+vs.length<=cur.size->(∀v∈vs,v.oneCell'=ai)->
  (storeCells (ad b o) vs i).run P w= .ok () (w.setRow b (cur.toList.take (o+i)++vs++cur.toList.drop (o+i+vs.length)).toArray):=by
 intro vs;induction vs with
 |nil=>intro i w cur hb _ _;obtain⟨t,fr,hg,hf⟩:=hb;simp only[storeCells,dn,jT,yX,List.take_append_drop,uk];rw[setRow_self w b cur t fr hg];rfl
 |cons v rest ih=>
  intro i w cur hb hl h1;have hi:o+i<cur.size:=by simp at hl;omega
  have arT:=hb.free hi;obtain⟨t,fr,hg,hf⟩:=hb;have hcell:w.cell? (ad b (o+i))=ah cur[o+i]:=by simp[World.cell?,hg,hi]
  have Li:(store ((ad b o).add i) v).run P w= .ok () (w.setRow b (cur.setIfInBounds (o+i) v)):=by rw[Addr.oa,run_store P w _ v _ (h1 v (by simp)),hcell];simp[arT,setCell_eq_setRow w b (o+i) cur t fr v hg]
  have QD:n8 (w.setRow b (cur.setIfInBounds (o+i) v)) b (cur.setIfInBounds (o+i) v):=⟨t,fr,setRow_heap w b cur _ t fr hg,by simpa using hf⟩
  have ih':=ih (i+1) (w.setRow b (cur.setIfInBounds (o+i) v)) (cur.setIfInBounds (o+i) v) QD (by simp at hl⊢;omega) (λx hx=>h1 x (by simp[hx]));simp only[storeCells,cj,Li,bG,ih',setRow_setRow];congr 3;have e:=list_seg_step cur.toList (o+i) v rest (by simp at hl⊢;omega);simpa [Array.toList_setIfInBounds,me]using e
def eh(cur:du bk)(o:aF)(vs:az bk):du bk:=(cur.toList.take o++vs++cur.toList.drop (o+vs.length)).toArray
theorem fg{cur:du bk}{o:aF}{vs:az bk}(h:o+vs.length<=cur.size):(eh cur o vs).size=cur.size:=by simp[eh];omega
theorem gp{cur:du bk}{o:aF}{vs:az bk}(h:o+vs.length<=cur.size)(k:aF):
  (eh cur o vs)[k]? =if o<=k/\k<o+vs.length then vs[k-o]? else cur[k]? :=by
 simp only[eh,ik];by_cases h1:k<o
 ·rw[bH (by omega),cz,dH (by simp;omega),d_,bz h1];simp
 ·by_cases h2:k<o+vs.length
  ·rw[bz ⟨by omega,h2⟩,cz,da (by simp;omega),dH (by simp;omega)];congr 1;simp;omega
  ·rw[bH (by omega),cz,da (by simp;omega),da (by simp;omega),dQ];simp only[cY];congr 1;simp;omega
theorem nQ{b o:aF}{vs:az bk}{cur:du bk}(hb:n8 w b cur)(hl:o+vs.length<=cur.size)(h1:∀v∈vs,v.oneCell'=ai):
  (storeCells (ad b o) vs).run P w= .ok () (w.setRow b (eh cur o vs)):=by have:=Eg (P:=P) b o vs 0 w cur hb (by simpa using hl) h1;simpa [eh]using this
theorem n8.setRow{w:bL}{b:aF}{cur new:du bk}(h:n8 w b cur)(hs:new.size=cur.size):n8 (w.setRow b new) b new:=by obtain⟨t,fr,hg,hf⟩:=h;exact⟨t,fr,setRow_heap w b cur new t fr hg,by rw[hs];exact hf⟩
theorem n8.alloc(w:bL)(cs:du bk)(t:TypeId):n8 (w.alloc (.cells cs t)) w.heap.size cs:=
 ⟨t,(0,0),heap_alloc_new w _,λo _=>by simp⟩
theorem yt{b o:aF}{cs:az bk}(h:∀j v,cs[j]? =ah v->w.cell? (ad b (o+j))=ah v):(loadCells (ad b o) cs.length).run P w= .ok cs.toArray w:=
 run_loadCells_list w (ad b o) cs (λj v hj=>by rw[Addr.oa];exact h j v hj)
theorem C_{E:Tab}(hE:eH P E){t:aF}{ti:TI}(ht:E.ty t=ah ti){b o:aF}{cs:az bk}(hl:cs.length=ti.ks.length)(h:∀j v,cs[j]? =ah v->w.cell? (ad b (o+j))=ah v):
  (yU t (.pointer (ah (ad b o)))).run P w= .ok (if ti.agg=ai then .agg cs.toArray else cs.headD .nilIface) w:=by
 obtain⟨inf,hi,gh,_,ll,_⟩:=hE.info t ti ht;obtain⟨d,hd,ha,hn⟩:=hE.desc t ti ht;cases uG:ti.agg with
 |true=>obtain⟨fs,rfl,_⟩:=ha uG;have hr:=yt (P:=P) w (b:=b) (o:=o) h;simp only[yU,uW,loadVar,isAgg,cj,run_underlying hd,cT,bG,if_true,sizeOf,typeInfo,program,nB,hi,gh,<-hl,hr]
 |false=>
  have xO:∃k,ti.ks=[k]:=by rcases hn uG with ⟨k,h,_⟩|⟨h,_⟩|⟨h,_⟩|⟨e,h,_⟩|⟨h,_⟩<;>exact⟨_,h⟩
  obtain⟨k,hk⟩:=xO;rw[hk]at hl;obtain⟨v,rfl⟩:=g6.1 hl;have hc:=h 0 v rfl;simp only[yX]at hc;have azm:(match d with| .struct _| .array _ _=>ai|_=>ak)=false:=by
   rcases hn uG with ⟨k,_,rfl⟩|⟨_,rfl⟩|⟨_,rfl⟩|⟨e,_,rfl⟩|⟨_,h⟩
   ·rfl
   ·rfl
   ·rfl
   ·rfl
   ·cases d<;>simp_all
  have arB:(isAgg t).run P w= .ok ak w:=by simp only[isAgg,cj,run_underlying hd,bG];cases d<;>simp_all
  simp only[yU,uW,loadVar,cj,cT,bG,arB,dx,if_false,run_load,hc,List.headD]
theorem JV{E:Tab}(hE:eH P E){t:aF}{ti:TI}(ht:E.ty t=ah ti){b o:aF}{v:bk}{cur:du bk}(hl:v.cells.size=ti.ks.length)(hb:n8 w b cur)(hf:o+v.cells.size<=cur.size)(h1:∀u∈v.cells.toList,u.oneCell'=ai):
  (W2 t (.pointer (ah (ad b o))) v).run P w= .ok () (w.setRow b (eh cur o v.cells.toList)):=by obtain⟨inf,hi,gh,_⟩:=hE.info t ti ht;have hr:=nQ (P:=P) w hb (o:=o) (vs:=v.cells.toList) (by simpa using hf) h1;simp only[W2,uW,storeVar,cj,cT,bG,sizeOf,typeInfo,program,nB,hi,gh,hl,ne_eq,not_true_eq_false,if_false,hr]
theorem Qb{E:Tab}(hE:eH P E){t:aF}{ti:TI}(ht:E.ty t=ah ti)(ho:LB ti.ks=ai):
  (Instr.alloc t ai (.tuple #[])).run P w= .ok (.pointer (ah (ad w.heap.size 0))) (w.alloc (.cells (ti.ks.map iN).toArray t)):=by obtain⟨inf,hi,gh,_,_,hz⟩:=hE.info t ti ht;obtain⟨z,Kd,Ea,_⟩:=hz ho;simp only[Instr.alloc,cj,zeroValue,typeInfo,program,nB,hi,bG,cT,Kd,newVar,newRow,newObj,Ea];rfl
theorem U6(t:aF)(v:bk):(Instr.box t v).run P w= .ok (.pointer (ah (ad w.heap.size 0))) (w.alloc (.cells v.cells t)):=by simp only[Instr.box,cj,newVar,newRow,newObj,nB,bG,cT];rfl
theorem JR{E:Tab}(hE:eH P E){t f off n:aF}(hf:E.fo t f=ah (off,n))(b o:aF):
  (W0 t (.pointer (ah (ad b o))) f).run P w= .ok (.pointer (ah (ad b (o+off)))) w:=by
 obtain⟨ti,ht,uG⟩:=hE.fo t f off n hf;obtain⟨d,hd,ha,_⟩:=hE.desc t ti ht;obtain⟨fs,rfl,Lc⟩:=ha uG;obtain⟨fd,h1,h2,h3,h4,_⟩:=Lc f off n hf;cases hq:P.info? fd.type with
 |none=>simp[hq]at h3
 |some inf=>
  have hs:inf.size=n:=by simpa [hq]using h3
  have iB:¬inf.size=0:=by omega
  simp only[W0,cj,run_underlying hd,bG,h1,uW,cT,fieldPlace,sizeOf,typeInfo,program,nB,hq,bH iB,nr,Addr.oa,h2]
theorem pr{E:Tab}(hE:eH P E){t e:aF}{ti:TI}(ht:E.ty t=ah ti)(uG:ti.agg=ak)(hk:ti.ks=[.l e]):P.underlying t=ah (.slice e):=by obtain⟨d,hd,_,hn⟩:=hE.desc t ti ht;rcases hn uG with ⟨k,h,_⟩|⟨h,_⟩|⟨h,_⟩|⟨e',h,rfl⟩|⟨h,_⟩<;>rw[hk]at h<;>simp_all
theorem JS{E:Tab}(hE:eH P E){t e:aF}{te:TI}(hu:P.underlying t=ah (.slice e))(he:E.ty e=ah te)(b o n c:aF)(k:nA)(i:aw)(h0:0<=i)(h1:i<n):
  (W1 t (.slice (ah (ad b o)) n c) (.int k i)).run P w= .ok (.pointer (ah (ad b (o+i.toNat*te.ks.length)))) w:=by obtain⟨inf,hi,gh,_⟩:=hE.info e te he;simp only[W1,asIntOf,cj,cT,bG,run_underlying hu,h0,h1,and_self,if_true,sizeOf,typeInfo,program,nB,hi,gh,Addr.oa]
end
end Go.FG

namespace Go.FG
section
variable {P:c5} {E:fQ} {σ:St} {a:Act} {w:bL} {c:e9}
theorem mB(dK:fE E σ a w c){x:dy}{v:SV}(h:(Hw x).val σ=ah v):jm E w c v (a.eval x)/\mV σ v:=by
 cases x with
 |tmp t=>
  simp only[Hw,Rd.BL]at h;cases hc:σ (qx t)with
  |v x=>rw[hc]at h;obtain rfl:=aJ h;have h1:=dK.ok t;have h2:=dK.kn t;simp only[slot,hc]at h1 h2;exact⟨h1,h2⟩
  |o x=>rw[hc]at h;simp at h;subst h;exact⟨trivial,λn hn=>by simp[cO]at hn⟩
  |j9=>rw[hc]at h;simp at h;subst h;exact⟨trivial,λn hn=>by simp[cO]at hn⟩
 |const v'=>
  obtain rfl:=aJ h;refine⟨?_, ?_⟩
  ·show jm E w c (cst v') v';unfold cst;split;case h_3 x=>
    cases hd:fK x.size 4611686018427387904 with
    |true=>exact⟨rfl,cM hd⟩
    |false=>exact trivial
   all_goals first|trivial|rfl
  ·unfold cst;intro n hn;split at hn;case h_3 x=>
    cases hd:fK x.size 4611686018427387904 with
    |true=>simp[hd,cO,bS]at hn
    |false=>simp[hd,cO]at hn
   all_goals simp[cO,bS]at hn
 |global g=>simp[Hw]at h
 |func f=>obtain rfl:=aJ h;exact⟨⟨#[],rfl,rfl,λq cs hq=>by simp at hq⟩,λn hn=>by simp[cO,bS]at hn⟩
theorem jb(dK:fE E σ a w c){x:dy}{v:AV}(h:(rZ x).val σ=ah v):eM E w c v (a.eval x)/\jj σ v:=by
 obtain⟨s,h1,h2⟩:=Rd.bind_some h;obtain⟨h3,h4⟩:=mB dK h1;split at h2
 ·obtain rfl:=aJ h2;exact⟨h3,λn hn=>h4 n (by simpa [cO]using hn)⟩
 ·simp at h2
theorem p_(dK:fE E σ a w c){x:dy}{k:nA}{n:aw}(h:(CR x).val σ=ah (k,n)):a.eval x= .int k n:=by
 obtain⟨s,h1,h2⟩:=Rd.bind_some h;obtain⟨h3,_⟩:=jb dK h1;split at h2
 ·simp at h2;obtain⟨rfl,rfl⟩:=h2;exact h3
 ·simp at h2
theorem dz{nm:aF}{x:Obj}(h:(jP nm).val σ=ah x):σ (c8 nm)= .o x:=by
 simp only[jP,Rd.BL]at h;split at h
 ·rename_i y hy;simp at h;subst h;exact hy
 ·simp at h
theorem dW{t:aF}{ti:TI}(h:(sW E t).val σ=ah ti):E.ty t=ah ti:=by
 unfold sW at h;split at h
 ·simp at h;subst h;assumption
 ·simp at h
theorem kL{nm:aF}{u:Unit}(h:(fresh nm).val σ=ah u):σ (c8 nm)= .j9/\nm<900000000:=by
 simp only[fresh,Rd.BL]at h;split at h
 ·rename_i hy;obtain⟨h1,_⟩:=cR h;exact⟨hy,by have:=cM h1;omega⟩
 ·simp at h
def gZ(P:c5)(E:fQ)(σ:St)(a:Act)(w:bL)(c:e9)(o:fC)(ws:az (aF×eT)):Prop:=
 ∀(K:Act->bL->Prop) (Q:Exit->Act->bL->Prop),
  (∀v w' c',Ok E (wr σ ws) w' c'->fE E (wr σ ws) (a.put o.dst v) w' c'->oG σ c w (wr σ ws) c' w'->rk σ c c'->K (a.put o.dst v) w')->o.wp P a w K Q
theorem yG{o:fC}{v:bk}{w':bL}{K:Act->bL->Prop}{Q:Exit->Act->bL->Prop}(hr:(execOp a.eval o).run P w= .ok (.value v) w')(hK:K (a.put o.dst v) w'):o.wp P a w K Q:=by unfold OO;rw[hr];exact hK
theorem Dq{o:fC}{w':bL}{K:Act->bL->Prop}{Q:Exit->Act->bL->Prop}(hr:(execOp a.eval o).run P w= .ok .skip w')(hK:K (a.put o.dst undef) w'):o.wp P a w K Q:=by unfold OO;rw[hr];exact hK
theorem jI.refl(σ:St)(c:e9):jI σ c c:=λ_ _=>⟨rfl,rfl⟩
theorem gJ(cf:Ok E σ w c)(dK:fE E σ a w c){o:fC}(hd:∀d,o.dst=ah d->d<a.tmps.size){s:SV}{v:bk}
  (hs:jm E w c s v) (hk:mV σ s) (hr:(execOp a.eval o).run P w= .ok (.value v) w):gZ P E σ a w c o (dw o s):=by
 intro K Q hK;obtain⟨s1,s2,s3⟩:=sg σ o s;obtain⟨h1,h2⟩:=cf.slot s3;refine yG hr (hK v w c h1 ?_ h2 (jI.refl _ _).w);refine dK.change cf h2 (jI.refl _ _) (λnm hn=>by rw[s3];exact hn) o v s1 (λd ho=>⟨hd d ho, ?_, ?_⟩)
 ·rw[s2 d ho];exact hs
 ·rw[s2 d ho];intro n hn;rw[s3];exact hk n hn
theorem Cx(cf:Ok E σ w c)(dK:fE E σ a w c){o:fC}(hd:∀d,o.dst=ah d->d<a.tmps.size){nm:aF}{ob:Obj}{s:SV}{v:bk}{w':bL}{p:Pl}{g:aF->aF->Pl}
  (hn:σ (c8 nm)= .j9) (jD:nm<900000000)
  (m9:∀c':e9,c'.P nm=p->c'.G nm=g->(∀b,c.K b->c'.K b)->jI σ c c'->pU E w' c' nm ob)
  (pY:∀c':e9,c'.P nm=p->c'.G nm=g->∀b,fL c' nm ob b->w.heap.size<=b)
  (Ji:∀xs,ob= .box xs->∀a∈xs,jj σ a)
  (yN:∀c':e9,c'.P nm=p->c'.G nm=g->jm E w' c' s v) (A_:∀n∈cO s,n=nm\/σ (c8 n)≠ .j9)
  (hW:∀b,b<w.heap.size->w'.heap[b]? =w.heap[b]?) (gh:w.heap.size<=w'.heap.size) (PB:w'.os=w.os) (XZ:w'.tape=w.tape) (XT:w'.output=w.output)
  (hr:(execOp a.eval o).run P w= .ok (.value v) w'):gZ P E σ a w c o ((c8 nm, .o ob)::dw o s):=by
 intro K Q hK;let c':e9:=⟨λn=>if n=nm then p else c.P n,λn=>if n=nm then g else c.G n,c.K⟩
 have hP:c'.P nm=p:=bz rfl;have hG:c'.G nm=g:=bz rfl;have hA:jI σ c c':=λm hm=>by
  have:m≠nm:=by rintro rfl;rcases hm with h|h;exact h hn;omega
  exact⟨bH this,bH this⟩
 let σ1:=pS σ (c8 nm) (.o ob);obtain⟨s1,s2,s3⟩:=sg σ1 o s;have key:∀m,wr σ1 (dw o s) (c8 m)=if m=nm then .o ob else σ (c8 m):=λm=>by rw[s3];exact qd _ _ _ _
 have iB:∀m,σ (c8 m)≠ .j9->wr σ1 (dw o s) (c8 m)≠ .j9:=λm hm=>by rw[key];split<;>simp_all
 have hh:=cf.change (σ':=wr σ1 (dw o s)) (w':=w') (c':=c') (λm=>m=nm) (λm hm=>by rw[key,bH hm]) iB hA
  (λb hb _=>hW b hb) gh (λ_ h=>h) (λ_ h=> .inl h) (λb hb=>jy (cf.lt b hb) gh)
  (λm x hm ho=>by subst hm;rw[key,bz rfl]at ho;cases ho;exact m9 c' hP hG (λ_ h=>h) hA)
  (λm x b hm ho hf=>by subst hm;rw[key,bz rfl]at ho;cases ho;have:=pY c' hP hG b hf;exact⟨.inr this,λhk=>by have:=cf.lt b hk;omega⟩)
  (λm x m' x' b hm xN _ _ _ _=>by rw[hm,xN])
  (λm xs hm ho y hy n kM=>by subst hm;rw[key,bz rfl]at ho;cases ho;exact iB n (Ji xs rfl y hy n kM)) PB XZ XT
 refine yG hr (hK v w' c' hh.1 ?_ hh.2 hA.w);refine dK.change cf hh.2 hA iB o v (λn kM=>by rw[s1 n kM];exact jt _ _ _ _) (λd ho=>⟨hd d ho, ?_, ?_⟩)
 ·show jm E w' c' (slot (wr σ1 (dw o s)) d) v;rw[s2 d ho];exact yN c' hP hG
 ·show mV (wr σ1 (dw o s)) (slot (wr σ1 (dw o s)) d);rw[s2 d ho];intro n kM;rw[key];split
  ·simp
  ·rename_i h;exact(A_ n kM).resolve_left h
theorem tJ(cf:Ok E σ w c)(dK:fE E σ a w c){o:fC}(hd:∀d,o.dst=ah d->d<a.tmps.size){nm:aF}{ob ob':Obj}{s:SV}{v:bk}{w':bL}
  (hn:σ (c8 nm)= .o ob) (m9:pU E w' c nm ob') (pY:∀b,fL c nm ob' b->fL c nm ob b)
  (Ji:∀xs,ob'= .box xs->∀a∈xs,jj σ a)
  (yN:jm E w' c s v) (A_:mV σ s)
  (hW:∀b,b<w.heap.size->¬fL c nm ob b->w'.heap[b]? =w.heap[b]?) (gh:w.heap.size<=w'.heap.size) (PB:w'.os=w.os) (XZ:w'.tape=w.tape) (XT:w'.output=w.output)
  (hr:(execOp a.eval o).run P w= .ok (.value v) w'\/((execOp a.eval o).run P w= .ok .skip w'/\v=undef)):gZ P E σ a w c o ([(c8 nm, .o ob')]++dw o s):=by
 intro K Q hK;let σ1:=pS σ (c8 nm) (.o ob');obtain⟨s1,s2,s3⟩:=sg σ1 o s;have key:∀m,wr σ1 (dw o s) (c8 m)=if m=nm then .o ob' else σ (c8 m):=λm=>by rw[s3];exact qd _ _ _ _
 have iB:∀m,σ (c8 m)≠ .j9->wr σ1 (dw o s) (c8 m)≠ .j9:=λm hm=>by rw[key];split<;>simp_all
 have gg:∀b,fL c nm ob b->ka (λm=>m=nm) σ c b:=λb hb=>⟨nm,ob,rfl,hn,hb⟩
 have hh:=cf.change (σ':=wr σ1 (dw o s)) (w':=w') (c':=c) (λm=>m=nm) (λm hm=>by rw[key,bH hm]) iB (jI.refl _ _)
  (λb hb XQ=>hW b hb (λhf=>XQ (gg b hf))) gh (λ_ h=>h) (λ_ h=> .inl h) (λb hb=>jy (cf.lt b hb) gh)
  (λm x hm ho=>by subst hm;rw[key,bz rfl]at ho;cases ho;exact m9)
  (λm x b hm ho hf=>by subst hm;rw[key,bz rfl]at ho;cases ho;exact⟨.inl (gg b (pY b hf)),cf.kk _ _ b hn (pY b hf)⟩)
  (λm x m' x' b hm xN _ _ _ _=>by rw[hm,xN])
  (λm xs hm ho y hy n kM=>by subst hm;rw[key,bz rfl]at ho;cases ho;exact iB n (Ji xs rfl y hy n kM)) PB XZ XT
 have ajp:fE E (wr σ1 (dw o s)) (a.put o.dst v) w' c:=by
  refine dK.change cf hh.2 (jI.refl _ _) iB o v (λn kM=>by rw[s1 n kM];exact jt _ _ _ _) (λd ho=>⟨hd d ho, ?_, ?_⟩)
  ·rw[s2 d ho];exact yN
  ·rw[s2 d ho];intro n kM;rw[key];split
   ·simp
   ·exact A_ n kM
 rcases hr with hr|⟨hr,rfl⟩
 ·exact yG hr (hK v w' c hh.1 ajp hh.2 (jI.refl _ _).w)
 ·exact Dq hr (hK undef w' c hh.1 ajp hh.2 (jI.refl _ _).w)
end
end Go.FG

namespace Go.FG
theorem aeO:∀{x y:Ck},ckB x y=ai->x=y:=by intro x y h;cases x<;>cases y<;>simp[ckB]at h<;>first|rfl|(subst h;rfl)|(have:=aU h;subst this;rfl)
theorem rQ:∀{a b:az Ck},qt a b=ai->a=b
 |[],[],_=>rfl
 |[],_::_,h=>by simp[qt]at h
 |_::_,[],h=>by simp[qt]at h
 |x::l,y::r,h=>by
  simp only[qt,aL]at h;rw[aeO h.1,rQ h.2]
structure arh (E:fQ) (w:bL) (K:aF->Prop) (b o n c e:aF) (xs:aR) (ti:TI) (U:aF->aF->bk):Prop where
 nn:n=xs.length
 ty:E.ty e=ah ti
 cap:xs.length<=c
 mx:c<=maxLen
 kb:K b
 sh:∀y∈xs,y.map CV.kd=ti.ks
 cell:∀i j y x,xs[i]? =ah y->y[j]? =ah x->w.cell? (ad b (o+i*ti.ks.length+j))=ah (U i j)
 inn:∀i j y x,xs[i]? =ah y->y[j]? =ah x->c_ E w K (U i j) x
theorem c_.Jw{E:fQ}{w:bL}{K:aF->Prop}{b o n c e:aF}{xs:aR}(h:c_ E w K (.slice (ah (ad b o)) n c) (.l e xs))(hn:0<xs.length):∃ti U,arh E w K b o n c e xs ti U:=by
 generalize hv:Value.slice (ah (ad b o)) n c=v at h;generalize hx:CV.l e xs=x at h;cases h with
 |i=>cases hx
 |b=>cases hx
 |s=>cases hx
 |nl=>cases hx;simp at hn
 |l e xs b o c ti U ht hc hm hK hs hcell gg=>cases hx;cases hv;exact⟨ti,U,rfl,ht,hc,hm,hK,hs,hcell,gg⟩
theorem KP{E:fQ}{w:bL}{c:e9}{u:bk}{x:CV}(h:c_ E w c.K u x):eM E w c (dec x.kd x) u:=by
 cases x with
 |i k n=>cases h;rfl
 |b=>cases h;rfl
 |s=>cases h with|s _ ho=>exact⟨rfl,ho⟩
 |l e xs=>exact h
theorem NW{E:fQ}{w:bL}{c:e9}{u:bk}{x:CV}(h:c_ E w c.K u x):eM E w c (Zm x) u:=by
 cases x with
 |i k n=>cases h;rfl
 |b=>cases h;rfl
 |s=>cases h with|s _ ho=>exact⟨rfl,ho⟩
 |l e xs=>exact h
theorem pq{E:fQ}{w:bL}{c:e9}{u:bk}{x:CV}(hl:uH x=ak)(h:Sc u x):eM E w c (dec x.kd x) u:=by
 cases x with
 |i=>exact h.1
 |b=>exact h.1
 |s=>exact h
 |l=>simp[uH]at hl
theorem PQ(k:Ck)(x:CV):bS (dec k x)=[]:=by cases k<;>rfl
theorem CK(x:CV):bS (Zm x)=[]:=by cases x<;>rfl
theorem lV(xs:aR)(i:aF):∀(ks:az Ck) (j q:aF),(vj xs i j ks)[q]? =(ks[q]?).map λk=>dec k (ar xs i (j+q)):=by
 intro ks;induction ks with
 |nil=>intro j q;simp[vj]
 |cons k ks ih=>
  intro j q;cases q with
  |zero=>simp[vj]
  |succ q=>simp only[vj,dO,ih];congr 2;funext k;congr 2;omega
theorem IL(nm:aF)(xs:aR)(i:aF):∀(ks:az Ck) (j q:aF),(A4 nm xs i j ks)[q]? =(ks[q]?).map λk=>match k with| .l _=>AV.inn nm i (j+q)|k=>dec k (ar xs i (j+q)):=by
 intro ks;induction ks with
 |nil=>intro j q;simp[A4]
 |cons k ks ih=>
  intro j q;cases q with
  |zero=>cases k<;>simp[A4]
  |succ q=>
   have e:j+1+q=j+(q+1):=by omega
   cases k<;>simp only[A4,dO,ih,e]
theorem fG{xs:aR}{i j:aF}{y:az CV}{x:CV}(hi:xs[i]? =ah y)(hj:y[j]? =ah x):ar xs i j=x:=by simp[ar,jS,hi,hj]
theorem kQ(xs:aR)(i:aF):∀(ks:az Ck) (j:aF),(vj xs i j ks).length=ks.length:=by
 intro ks;induction ks with
 |nil=>intro j;rfl
 |cons k ks ih=>intro j;simp[vj,ih]
theorem Ar(nm:aF)(xs:aR)(i:aF):∀(ks:az Ck) (j:aF),(A4 nm xs i j ks).length=ks.length:=by
 intro ks;induction ks with
 |nil=>intro j;rfl
 |cons k ks ih=>intro j;cases k<;>simp[A4,ih]
theorem qV{ks ks2:az Ck}{j:aF}{y:az CV}(hy:y.map CV.kd=ks)(h:(ks.drop j).take ks2.length=ks2){q:aF}(hq:q<ks2.length):∃x,y[j+q]? =ah x/\ks2[q]? =ah x.kd:=by
 have h1:ks2[q]? =ks[j+q]? :=by rw[<-h,d_,bz hq,dQ]
 rw[<-hy,bK]at h1;cases hx:y[j+q]? with
 |none=>rw[hx]at h1;simp at h1;omega
 |some x=>exact⟨x,rfl,by rw[h1,hx];rfl⟩
section
variable {P:c5} {E:fQ} {σ:St} {a:Act} {w:bL} {c:e9}
theorem uP{p:Pl}{G:aF->aF->Pl}{xs:aR}{ks:az Ck}{i j e2:aF}(gf:jl w p xs (λi j u x=>if ai=ai then XC E w G i j u x else c_ E w c.K u x))(mR:∀y∈xs,y.map CV.kd=ks)(hi:i<p.n)(hk:ks[j]? =ah (.l e2)):
  ∃ys y,xs[i]? =ah y/\y[j]? =ah (.l e2 ys)/\∃u,XC E w G i j u (.l e2 ys):=by
 have mh:i<xs.length:=by rw[<-gf.n];exact hi
 have hy:xs[i]? =ah xs[i]:=by simp[mh]
 have h1:=mR xs[i] (bC mh);rw[<-h1,bK]at hk;cases hx:xs[i][j]? with
 |none=>rw[hx]at hk;cases hk
 |some x=>
  rw[hx]at hk;cases x with
  |l e ys=>
   cases hk;have jE:p.nil=false:=by
    cases hn:p.nil with
    |false=>rfl
    |true=>have:=(gf.nil hn).1;subst this;simp at mh
   obtain⟨vals,_,_,_,_,oe⟩:=gf.mem jE;obtain⟨u,_,hr⟩:=oe i _ j _ hy hx;rw[bz rfl]at hr;exact⟨ys,_,hy,hx,u,hr⟩
  |i=>cases hk
  |b=>cases hk
  |s=>cases hk
theorem iw{ks:az Ck}(h:plain ks=ai){y:az CV}(hy:y.map CV.kd=ks){j:aF}{x:CV}(hx:y[j]? =ah x):uH x=false:=by
 have h1:x.kd∈ks:=by rw[<-hy];exact cW.2 ⟨x,aQ hx,rfl⟩
 have h2:=bu.1 h _ h1;cases x<;>simp_all [CV.kd,uH]
structure R6 (E:fQ) (σ:St) (w:bL) (c:e9) (ti:TI) (v:bk) (xs:az AV):Prop where
 ex:∃(b o:aF) (cs:az bk),v= .pointer (ah (ad b o))/\cs.length=ti.ks.length/\(∀(j:aF) (u:bk),cs[j]? =ah u->w.cell? (ad b (o+j))=ah u)/\
  xs.length=ti.ks.length/\(∀(j:aF) (x:AV),xs[j]? =ah x->∃u:bk,cs[j]? =ah u/\eM E w c x u)
 kn:∀x∈xs,jj σ x
theorem mH{ti:TI}{b o:aF}{xs:az AV}(hl:xs.length=ti.ks.length)(h:∀(j:aF) (x:AV),xs[j]? =ah x->∃u:bk,w.cell? (ad b (o+j))=ah u/\eM E w c x u)(hk:∀x∈xs,jj σ x):
  R6 E σ w c ti (.pointer (ah (ad b o))) xs:=by
 refine⟨⟨b,o,(b9 xs.length).map (λj=>(w.cell? (ad b (o+j))).getD undef),rfl,by simp[hl], ?_,hl, ?_⟩,hk⟩
 ·intro j u hu;simp only[bK]at hu;by_cases hj:j<xs.length
  ·obtain⟨u',sD,_⟩:=h j xs[j] (by simp[hj]);simp only[hj,vP,jh,sD,yY,jG]at hu;rw[sD,hu]
  ·simp[k_ (l:=b9 xs.length) (by simpa using hj)]at hu
 ·intro j x hx;obtain⟨u,hu,hv⟩:=h j x hx;refine⟨u, ?_,hv⟩
  have hj:j<xs.length:=(aT.1 hx).1;simp[hj,hu]
theorem TW(cf:Ok E σ w c){ti:TI}{p:AV}{v:bk}{xs:az AV}(hp:eM E w c p v)(h:(tO E ti p).val σ=ah xs):R6 E σ w c ti v xs:=by
 have Zk:∀(n:aF) (k:Ck) (x:CV),n∈bS (dec k x)->σ (c8 n)≠ .j9:=λn k x hn=>by rw[PQ]at hn;simp at hn
 cases p with
 |bp nm j=>
  obtain⟨o,ho,h2⟩:=Rd.bind_some h;have m9:=cf.obj nm o (dz ho);obtain rfl:v=_:=hp;cases o with
  |box ys=>
   obtain⟨hle,h3⟩:=cR h2;have hle:=cM hle;obtain rfl:=aJ h3;obtain⟨vals,hb,hs,hc⟩:=m9;refine mH (by simp;omega) (λq x hx=> ?_) (λx hx=>cf.kn nm ys (dz ho) x (la (ld hx)));rw[d_]at hx;split at hx
   ·rw[dQ]at hx;obtain⟨u,hu,hv⟩:=hc (j+q) x hx;exact⟨u,(hb.cell (j+q)).trans hu,hv⟩
   ·cases hx
  |od cs=>
   obtain⟨hle,h3⟩:=cR h2;have hle:=cM hle;obtain rfl:=aJ h3;refine mH (by simp;omega) (λq x hx=> ?_) (λx hx=> ?_)
   ·rw[bK,d_]at hx;split at hx
    ·rw[dQ]at hx;cases hy:cs[j+q]? with
     |none=>rw[hy]at hx;cases hx
     |some y=>rw[hy]at hx;cases hx;obtain⟨u,hu,hv⟩:=m9.2 (j+q) y hy;exact⟨u,hu,NW hv⟩
    ·cases hx
   ·obtain⟨y,_,rfl⟩:=cW.1 hx;intro n hn;rw[CK]at hn;simp at hn
  |row=>simp at h2
  |fT=>simp at h2
  |dead=>simp at h2
 |fp cs j=>
  obtain⟨hle,h3⟩:=cR h;have hle:=cM hle;obtain rfl:=aJ h3;obtain⟨b,rfl,hb⟩:=hp;refine mH (by simp;omega) (λq x hx=> ?_) (λx hx=> ?_)
  ·rw[bK,d_]at hx;split at hx
   ·rw[dQ]at hx;cases hy:cs[j+q]? with
    |none=>rw[hy]at hx;cases hx
    |some y=>rw[hy]at hx;cases hx;obtain⟨u,hu,hv⟩:=hb.2 (j+q) y hy;exact⟨u,hu,NW hv⟩
   ·cases hx
  ·obtain⟨y,_,rfl⟩:=cW.1 hx;intro n hn;rw[CK]at hn;simp at hn
 |sp e ys i j=>
  obtain⟨te,ht,h2⟩:=Rd.bind_some h;have ht:=dW ht;obtain⟨hk,h3⟩:=cR h2;have hk:=rQ hk;obtain rfl:=aJ h3;obtain⟨b,o,cp,ti2,hh,hi,Hf,rfl⟩:=hp;obtain rfl:te=ti2:=aJ (ht.symm.trans Hf);refine mH (kQ _ _ _ _) (λq x hx=> ?_) (λx hx=> ?_)
  ·rw[lV]at hx;obtain⟨ti3,U,hL⟩:=hh.Jw (by omega);obtain rfl:te=ti3:=aJ (ht.symm.trans hL.ty);have hq:q<ti.ks.length:=by
    cases hq:ti.ks[q]? with
    |none=>rw[hq]at hx;cases hx
    |some k=>exact(aT.1 hq).1
   have hy:ys[i]? =ah ys[i]:=by simp[hi]
   obtain⟨z,hz,we⟩:=qV (hL.sh ys[i] (bC hi)) hk hq;rw[we]at hx;cases hx;rw[fG hy hz];exact⟨U i (j+q),by have:=hL.cell i (j+q) _ z hy hz;rwa[show o+i*te.ks.length+j+q=o+i*te.ks.length+(j+q)by omega],KP (hL.inn i (j+q) _ z hy hz)⟩
  ·obtain⟨q,hq⟩:=bY hx;rw[lV]at hq;cases we:ti.ks[q]? with
   |none=>rw[we]at hq;cases hq
   |some k=>rw[we]at hq;cases hq;intro n hn;exact Zk n _ _ hn
 |rp nm i j=>
  obtain⟨o,ho,h2⟩:=Rd.bind_some h;have ho:=dz ho;have m9:=cf.obj nm o ho;obtain⟨hi,rfl⟩:=hp;cases o with
  |row e ex ys=>
   obtain⟨te,ht,h2⟩:=Rd.bind_some h2;have ht:=dW ht;obtain⟨hk,h3⟩:=cR h2;have hk:=rQ hk;have h3:(ex=ai/\plain ti.ks=ai/\xs=vj ys i j ti.ks)\/((ex=ak\/zH nm=ak)/\xs=bif ex then A4 nm ys i j ti.ks else vj ys i j ti.ks):=by
    cases hF:(ex&&zH nm)with
    |true=>rw[hF,au]at h3;obtain⟨s5,h3⟩:=cR h3;rw[aL]at hF;exact .inl ⟨hF.1,s5,(aJ h3).symm⟩
    |false=>
     rw[hF,ax]at h3;refine .inr ⟨?_,(aJ h3).symm⟩;cases ex with
     |false=>exact .inl rfl
     |true=>exact .inr (by simpa using hF)
   obtain⟨⟨ti2,Hf,gh,mR⟩,gf,_⟩:=m9;obtain rfl:te=ti2:=aJ (ht.symm.trans Hf);have jE:(c.P nm).nil=false:=by
    cases hn:(c.P nm).nil with
    |false=>rfl
    |true=>have:=(gf.nil hn).1;subst this;rw[gf.n]at hi;simp at hi
   obtain⟨vals,hb,S0,_,mM,oe⟩:=gf.mem jE;have mh:i<ys.length:=by rw[<-gf.n];exact hi
   have hy:ys[i]? =ah ys[i]:=by simp[mh]
   rcases h3 with ⟨rfl,s5,rfl⟩|h3
   ·refine mH (kQ _ _ _ _) (λq x hx=> ?_) (λx hx=> ?_)
    ·have hq:q<ti.ks.length:=by have:=(aT.1 hx).1;simpa [kQ]using this
     obtain⟨z,hz,we⟩:=qV (mR ys[i] (bC mh)) hk hq;obtain⟨u,hu,hr⟩:=oe i _ (j+q) z hy hz;rw[bz rfl]at hr;rw[lV,we]at hx;cases hx;refine⟨u, ?_, ?_⟩
     ·rw[hb.cell];rw[<-hu];congr 1;omega
     ·have hzk:=bu.1 s5 z.kd (aQ we);show eM E w c (dec z.kd (ar ys i (j+q))) u;rw[fG hy hz];cases z with
      |l e2 zs=>cases hzk
      |i k n=>exact pq rfl hr
      |b t=>exact pq rfl hr
      |s t=>exact pq rfl hr
    ·obtain⟨q,hq⟩:=bY hx;intro n hn;rw[lV]at hq;cases we:ti.ks[q]? with
     |none=>rw[we]at hq;cases hq
     |some k=>rw[we]at hq;cases hq;exact Zk n _ _ hn
   obtain⟨hFn,rfl⟩:=h3;refine mH (by cases ex<;>simp[kQ,Ar]) (λq x hx=> ?_) (λx hx=> ?_)
   ·have hq:q<ti.ks.length:=by have:=(aT.1 hx).1;cases ex<;>simpa [kQ,Ar]using this
    obtain⟨z,hz,we⟩:=qV (mR ys[i] (bC mh)) hk hq;obtain⟨u,hu,hr⟩:=oe i _ (j+q) z hy hz;refine⟨u, ?_, ?_⟩
    ·rw[hb.cell];rw[<-hu];congr 1;omega
    ·cases ex with
     |false=>rw[bH (by simp)]at hr;have hx:(vj ys i j ti.ks)[q]? =ah x:=hx;rw[lV,we]at hx;cases hx;rw[fG hy hz];exact KP hr
     |true=>
      rw[bz rfl]at hr;have hx:(A4 nm ys i j ti.ks)[q]? =ah x:=hx;rw[IL,we]at hx;cases z with
      |l e2 zs=>cases hx;exact⟨⟨hi,hr.1⟩,hFn.resolve_left (by simp)⟩
      |i k n=>cases hx;rw[fG hy hz];exact pq rfl hr
      |b t=>cases hx;rw[fG hy hz];exact pq rfl hr
      |s t=>cases hx;rw[fG hy hz];exact pq rfl hr
   ·obtain⟨q,hq⟩:=bY hx;intro n hn;cases ex with
    |false=>
     have hq:(vj ys i j ti.ks)[q]? =ah x:=hq;rw[lV]at hq;cases we:ti.ks[q]? with
     |none=>rw[we]at hq;cases hq
     |some k=>rw[we]at hq;cases hq;exact Zk n _ _ hn
    |true=>
     have hq:(A4 nm ys i j ti.ks)[q]? =ah x:=hq;rw[IL]at hq;cases we:ti.ks[q]? with
     |none=>rw[we]at hq;cases hq
     |some k=>
      rw[we]at hq;cases k with
      |l e2=>cases hq;simp[bS]at hn;subst hn;rw[ho];simp
      |i=>cases hq;exact Zk n _ _ hn
      |b=>cases hq;exact Zk n _ _ hn
      |s=>cases hq;exact Zk n _ _ hn
      |o=>cases hq;exact Zk n _ _ hn
  |fT e ys=>
   obtain⟨te,ht,h2⟩:=Rd.bind_some h2;have ht:=dW ht;obtain⟨hk,h3⟩:=cR h2;have hk:=rQ hk;obtain rfl:=aJ h3;obtain⟨hh,hn,ti2,Hf,gh⟩:=m9;obtain rfl:te=ti2:=aJ (ht.symm.trans Hf);have mh:i<ys.length:=by rw[<-hn];exact hi
   have hy:ys[i]? =ah ys[i]:=by simp[mh]
   have jE:(c.P nm).nil=false:=by
    cases hq:(c.P nm).nil with
    |false=>rfl
    |true=>unfold lW at hh;rw[bz hq]at hh;cases hh;simp at mh
   unfold lW at hh;rw[bH (by simp[jE]),hn]at hh;refine mH (kQ _ _ _ _) (λq x hx=> ?_) (λx hx=> ?_)
   ·rw[lV]at hx;obtain⟨ti3,U,hL⟩:=hh.Jw (by omega);obtain rfl:te=ti3:=aJ (ht.symm.trans hL.ty);have hq:q<ti.ks.length:=by
     cases hq:ti.ks[q]? with
     |none=>rw[hq]at hx;cases hx
     |some k=>exact(aT.1 hq).1
    obtain⟨z,hz,we⟩:=qV (hL.sh ys[i] (bC mh)) hk hq;rw[we]at hx;cases hx;rw[fG hy hz];exact⟨U i (j+q),by have:=hL.cell i (j+q) _ z hy hz;rw[<-this];congr 2;rw[gh];omega,KP (hL.inn i (j+q) _ z hy hz)⟩
   ·obtain⟨q,hq⟩:=bY hx;rw[lV]at hq;cases we:ti.ks[q]? with
    |none=>rw[we]at hq;cases hq
    |some k=>rw[we]at hq;cases hq;intro n hn;exact Zk n _ _ hn
  |box=>simp at h2
  |od=>simp at h2
  |dead=>simp at h2
 |ip nm i j i2 j2=>
  obtain⟨o,ho,h2⟩:=Rd.bind_some h;have ho:=dz ho;have m9:=cf.obj nm o ho;obtain⟨⟨mi,hi,rfl⟩,hFp⟩:=hp;cases o with
  |row e ex ys=>
   cases ex with
   |false=>simp at h2
   |true=>
    obtain⟨te,ht,h2⟩:=Rd.bind_some h2;have ht:=dW ht;split at h2
    ·rename_i e2 Ap;obtain⟨t2,Hf,h2⟩:=Rd.bind_some h2;have Hf:=dW Hf;obtain⟨hk,h3⟩:=cR h2;have hk:=rQ hk;obtain rfl:=aJ h3;obtain⟨⟨tj,htj,gh,mR⟩,gf,_⟩:=m9;obtain rfl:te=tj:=aJ (ht.symm.trans htj);obtain⟨zs,y,hy,hyj,uu,_,tk,Hg,s5,Lj,D8,oV⟩:=uP (c:=c) gf mR mi Ap;obtain rfl:t2=tk:=aJ (Hf.symm.trans Hg);rw[fG hy hyj];refine mH (kQ _ _ _ _) (λq x hx=> ?_) (λx hx=> ?_)
     ·rw[lV]at hx;have hq:q<ti.ks.length:=by
       cases hq:ti.ks[q]? with
       |none=>rw[hq]at hx;cases hx
       |some k=>exact(aT.1 hq).1
      have sC:i2<zs.length:=by rw[<-oV.n];exact hi
      have CD:(c.G nm i j).nil=false:=by
       cases hn:(c.G nm i j).nil with
       |false=>rfl
       |true=>have:=(oV.nil hn).1;subst this;simp at sC
      obtain⟨vals,hb,_,_,_,oe⟩:=oV.mem CD;have hzi:zs[i2]? =ah zs[i2]:=by simp[sC]
      obtain⟨z,hz,we⟩:=qV (D8 zs[i2] (bC sC)) hk hq;obtain⟨u,hu,hr⟩:=oe i2 _ (j2+q) z hzi hz;rw[we]at hx;cases hx;refine⟨u, ?_, ?_⟩
      ·rw[hb.cell,<-hu];congr 1;omega
      ·show eM E w c (dec z.kd (ar zs i2 (j2+q))) u;rw[fG hzi hz];exact pq (iw s5 (D8 _ (bC sC)) hz) hr
     ·obtain⟨q,hq⟩:=bY hx;rw[lV]at hq;cases we:ti.ks[q]? with
      |none=>rw[we]at hq;cases hq
      |some k=>rw[we]at hq;cases hq;intro n hn;exact Zk n _ _ hn
    ·simp at h2
  |fT=>simp at h2
  |box=>simp at h2
  |od=>simp at h2
  |dead=>simp at h2
 |i=>simp[tO]at h
 |b=>simp[tO]at h
 |s=>simp[tO]at h
 |sh=>simp[tO]at h
 |nl=>simp[tO]at h
 |own=>simp[tO]at h
 |vw=>simp[tO]at h
 |inn=>simp[tO]at h
 |fn=>simp[tO]at h
end
end Go.FG

namespace Go.FG
section
variable {P:c5} {E:fQ} {σ:St} {a:Act} {w:bL} {c:e9} {o:fC} {nm:aF} {e:s8}
theorem ja{s:Sem bk}{v:bk}{w':bL}(hr:s.run P w= .ok v w'):(do pure (Next.value (<-s)):Sem Next).run P w= .ok (.value v) w':=by simp only[cj,hr,bG,cT]
theorem fX(cf:Ok E σ w c)(dK:fE E σ a w c)(hd:∀d,o.dst=ah d->d<a.tmps.size){s:SV}{v:bk}(h:(val o s).val σ=ah e)(hs:jm E w c s v)(hk:mV σ s)(hr:(execOp a.eval o).run P w= .ok (.value v) w):gZ P E σ a w c o e.ws:=by obtain rfl:=aJ h;exact gJ cf dK hd hs hk hr
theorem FD(cf:Ok E σ w c)(dK:fE E σ a w c)(hd:∀d,o.dst=ah d->d<a.tmps.size){b:aX}{x:AV}{v:bk}(h:(Mc o b x).val σ=ah e)(hc:e.cond=ai)(hs:b=ai->eM E w c x v)(hk:jj σ x)(hr:b=ai->(execOp a.eval o).run P w= .ok (.value v) w):gZ P E σ a w c o e.ws:=by obtain rfl:=aJ h;have hc:b=true:=hc;exact gJ cf dK hd (hs hc) (λn hn=>hk n (by simpa [cO]using hn)) (hr hc)
theorem uI{σ:St}{x:AV}(h:bS x=[]):jj σ x:=λn hn=>by rw[h]at hn;simp at hn
theorem N0(cf:Ok E σ w c)(dK:fE E σ a w c)(hd:∀d,o.dst=ah d->d<a.tmps.size){x:dy}(ho:o.op= .move x\/o.op= .assign x)(h:(ml E nm o).val σ=ah e):gZ P E σ a w c o e.ws:=by
 have h':((Hw x).bind λv=>val o v).val σ=ah e:=by rcases ho with ho|ho<;>simpa [ml,ho]using h
 obtain⟨v,h1,h2⟩:=Rd.bind_some h';obtain⟨hv,hk⟩:=mB dK h1;refine fX cf dK hd h2 hv hk ?_;rcases ho with ho|ho<;>(unfold execOp;rw[ho];rfl)
theorem JI(cf:Ok E σ w c)(dK:fE E σ a w c)(hd:∀d,o.dst=ah d->d<a.tmps.size){x:dy}(ho:o.op= .nilCheck x)(h:(ml E nm o).val σ=ah e):gZ P E σ a w c o e.ws:=by
 simp only[ml,ho]at h;obtain⟨p,h1,h⟩:=Rd.bind_some h;obtain⟨ex,kx⟩:=jb dK h1;cases p with
 |bp n j=>have uE:a.eval x= .pointer (ah (ad (c.P n).blk j)):=ex;refine fX cf dK hd h (v:=a.eval x) ex (λn hn=>kx n (by simpa [cO]using hn)) ?_;unfold execOp;rw[ho];simp only[uE];rfl
 |rp n i j=>have uE:a.eval x= .pointer (ah (ad (c.P n).blk ((c.P n).off+i*(c.P n).sz+j))):=ex.2;refine fX cf dK hd h (v:=a.eval x) ex (λn hn=>kx n (by simpa [cO]using hn)) ?_;unfold execOp;rw[ho];simp only[uE];rfl
 |_=>cases h
theorem Zr(cf:Ok E σ w c)(dK:fE E σ a w c)(hd:∀d,o.dst=ah d->d<a.tmps.size){x y z:dy}(ho:o.op= .pick x y z)(h:(ml E nm o).val σ=ah e)(hc:e.cond=ai):gZ P E σ a w c o e.ws:=by
 simp only[ml,ho]at h;obtain⟨cx,h1,h⟩:=Rd.bind_some h;obtain⟨vy,h2,h⟩:=Rd.bind_some h;obtain⟨vz,h3,h⟩:=Rd.bind_some h;obtain⟨ex,kx⟩:=jb dK h1;obtain⟨ey,ky⟩:=mB dK h2;obtain⟨ez,kz⟩:=mB dK h3;have run:∀b,a.eval x= .bool b->(execOp a.eval o).run P w= .ok (.value (if b then a.eval y else a.eval z)) w:=by intro b hb;unfold execOp;rw[ho];simp only[hb,asBool,cj,cT,bG]
 cases cx with
 |b b=>
  replace ex:a.eval x= .bool b:=ex;have both:∀p q,vy= .v ak [.b p]->vz= .v ak [.b q]->gZ P E σ a w c o e.ws:=by
   rintro p q rfl rfl;refine fX cf dK hd h (v:=if b then a.eval y else a.eval z) ?_ (λn hn=>by simp[cO,bS]at hn) (run b ex);cases b
   ·exact ez
   ·exact ey
  have lft:vy= .kl []->gZ P E σ a w c o e.ws:=by
   rintro rfl;replace h:(Rd.ret (⟨!b,dw o vz⟩:s8)).val σ=ah e:=by cases vz<;>exact h
   obtain rfl:=aJ h;have hb:b=false:=by simpa using hc
   subst hb;exact gJ cf dK hd ez kz (run ak ex)
  have rgt:vz= .kl []->vy≠ .kl []->gZ P E σ a w c o e.ws:=by
   rintro rfl iB;replace h:(Rd.ret (⟨b,dw o vy⟩:s8)).val σ=ah e:=by
    cases vy with
    |un=>exact h
    |kl l=>cases l with
     |nil=>exact cJ rfl iB
     |cons=>exact h
    |v g xs=>cases g<;>(rcases xs with _|⟨⟨⟩,_|⟨_,_⟩⟩<;>exact h)
   obtain rfl:=aJ h;have hb:b=true:=hc;subst hb;exact gJ cf dK hd ey ky (run ai ex)
  cases vy with
  |un=>cases vz with
   |un=>simp at h
   |kl l=>cases l with
    |nil=>exact rgt rfl (by simp)
    |cons=>simp at h
   |v=>simp at h
  |kl l=>cases l with
   |nil=>exact lft rfl
   |cons=>cases vz with
    |un=>simp at h
    |kl l2=>cases l2 with
     |nil=>exact rgt rfl (by simp)
     |cons=>simp at h
    |v=>simp at h
  |v g xs=>cases vz with
   |un=>simp at h
   |kl l2=>cases l2 with
    |nil=>exact rgt rfl (by simp)
    |cons=>simp at h
   |v g2 ys=>cases g<;>cases g2<;>rcases xs with _|⟨⟨⟩,_|⟨_,_⟩⟩<;>rcases ys with _|⟨⟨⟩,_|⟨_,_⟩⟩<;>first|(simp at h;done)|exact both _ _ rfl rfl
 |i=>simp at h
 |s=>simp at h
 |sh=>simp at h
 |nl=>simp at h
 |own=>simp at h
 |vw=>simp at h
 |bp=>simp at h
 |rp=>simp at h
 |sp=>simp at h
 |inn=>simp at h
 |ip=>simp at h
 |fn=>simp at h
 |fp=>simp at h
theorem Zq(hE:eH P E)(cf:Ok E σ w c)(dK:fE E σ a w c)(hd:∀d,o.dst=ah d->d<a.tmps.size){t:aF}{p:dy}(ho:o.op= .load t p)(h:(ml E nm o).val σ=ah e):gZ P E σ a w c o e.ws:=by
 simp only[ml,ho]at h;obtain⟨ti,h1,h⟩:=Rd.bind_some h;obtain⟨pv,h2,h⟩:=Rd.bind_some h;obtain⟨xs,h3,h⟩:=Rd.bind_some h;have ht:=dW h1;obtain⟨ep,_⟩:=jb dK h2;obtain⟨⟨b,of,cs,hv,hl,hcell,hlen,Wu⟩,Ji⟩:=TW cf ep h3;have hr:=C_ (P:=P) w hE ht hl hcell;refine fX cf dK hd h (v:=if ti.agg=ai then .agg cs.toArray else cs.headD .nilIface) ?_ (λn hn=>by obtain⟨x,hx,hn⟩:=bQ.1 hn;exact Ji x hx n hn) ?_
 ·show qq E w c ti.agg xs _;cases uG:ti.agg with
  |true=>rw[bz rfl];exact⟨cs.toArray,rfl,by simp[hl,hlen],λj x hj=>by obtain⟨u,hu,hx⟩:=Wu j x hj;exact⟨u,by simpa using hu,hx⟩⟩
  |false=>
   obtain⟨d,_,_,hn⟩:=hE.desc t ti ht;have h1:ti.ks.length=1:=by rcases hn uG with ⟨k,h,_⟩|⟨h,_⟩|⟨h,_⟩|⟨e',h,_⟩|⟨h,_⟩<;>simp[h]
   obtain⟨x,rfl⟩:=g6.1 (hlen.trans h1);obtain⟨v,rfl⟩:=g6.1 (hl.trans h1);obtain⟨u,hu,hx⟩:=Wu 0 x rfl;simp at hu;subst hu;simpa [qq]using hx
 ·unfold execOp;rw[ho];exact ja (by rw[hv];exact hr)
theorem Ht(hE:eH P E)(cf:Ok E σ w c)(dK:fE E σ a w c)(hd:∀d,o.dst=ah d->d<a.tmps.size){t f:aF}{p:dy}(ho:o.op= .fieldAddr t p f)(h:(ml E nm o).val σ=ah e):gZ P E σ a w c o e.ws:=by
 simp only[ml,ho]at h;obtain⟨pv,h1,h⟩:=Rd.bind_some h;obtain⟨q,h2,h⟩:=Rd.bind_some h;obtain⟨ep,kp⟩:=jb dK h1;unfold SF at h2;cases hf:E.fo t f with
 |none=>rw[hf]at h2;simp at h2
 |some r=>
  obtain⟨off,n⟩:=r;rw[hf]at h2;have run:∀b o',a.eval p= .pointer (ah (ad b o'))->(execOp a.eval o).run P w= .ok (.value (.pointer (ah (ad b (o'+off))))) w:=by intro b o' hp;unfold execOp;rw[ho];exact ja (by rw[hp];exact JR (P:=P) w hE hf b o')
  cases pv with
  |bp iG j=>obtain rfl:=aJ h2;exact fX cf dK hd h (s:= .v ak [.bp iG (j+off)]) (v:= .pointer (ah (ad (c.P iG).blk (j+off)))) rfl (λn hn=>kp n (by simpa [cO,bS]using hn)) (run _ _ ep)
  |rp iG i j=>obtain rfl:=aJ h2;refine fX cf dK hd h (s:= .v ak [.rp iG i (j+off)]) ?_ (λn hn=>kp n (by simpa [cO,bS]using hn)) (run _ _ ep.2);exact⟨ep.1,by rw[show(c.P iG).off+i*(c.P iG).sz+j+off=(c.P iG).off+i*(c.P iG).sz+(j+off)by omega]⟩
  |sp e2 xs i j=>obtain rfl:=aJ h2;obtain⟨b,o',cp,ti,e1,Xq,e3,e4⟩:=ep;refine fX cf dK hd h (s:= .v ak [.sp e2 xs i (j+off)]) ?_ (λn hn=>by simp[cO,bS]at hn) (run _ _ e4);exact⟨b,o',cp,ti,e1,Xq,e3,by rw[show o'+i*ti.ks.length+j+off=o'+i*ti.ks.length+(j+off)by omega]⟩
  |ip iG i j i2 j2=>obtain rfl:=aJ h2;refine fX cf dK hd h (s:= .v ak [.ip iG i j i2 (j2+off)]) ?_ (λn hn=>kp n (by simpa [cO,bS]using hn)) (run _ _ ep.1.2.2);exact⟨⟨ep.1.1,ep.1.2.1,by rw[show(c.G iG i j).off+i2*(c.G iG i j).sz+j2+off=(c.G iG i j).off+i2*(c.G iG i j).sz+(j2+off)by omega]⟩,ep.2⟩
  |fp cs j=>obtain rfl:=aJ h2;obtain⟨b,e1,Xq⟩:=ep;exact fX cf dK hd h (s:= .v ak [.fp cs (j+off)]) ⟨b,rfl,Xq⟩ (λn hn=>by simp[cO,bS]at hn) (run _ _ e1)
  |i=>simp at h2
  |b=>simp at h2
  |s=>simp at h2
  |sh=>simp at h2
  |nl=>simp at h2
  |own=>simp at h2
  |vw=>simp at h2
  |inn=>simp at h2
  |fn=>simp at h2
theorem LG(cf:Ok E σ w c)(dK:fE E σ a w c)(hd:∀d,o.dst=ah d->d<a.tmps.size){x:dy}{i:aF}(ho:o.op= .extract x i)(h:(ml E nm o).val σ=ah e):gZ P E σ a w c o e.ws:=by
 simp only[ml,ho]at h;obtain⟨v,h1,h⟩:=Rd.bind_some h;obtain⟨ev,kv⟩:=mB dK h1;split at h
 ·rename_i l;split at h
  ·rename_i agg xs hl;obtain⟨vs,e1,e2,e3⟩:=ev;obtain⟨u,hu,hv⟩:=e3 i agg xs hl;refine fX cf dK hd h (v:=u) hv (λn hn=>kv n (bQ.2 ⟨(agg,xs),aQ hl,hn⟩)) ?_;unfold execOp;rw[ho];refine ja ?_;rw[e1];simp only[Instr.extract,hu];rfl
  ·simp at h
 ·simp at h
theorem Zs(cf:Ok E σ w c)(dK:fE E σ a w c)(hd:∀d,o.dst=ah d->d<a.tmps.size){x:dy}{op:UnOp}{t:aF}(ho:o.op= .unOp op t x)(h:(ml E nm o).val σ=ah e):gZ P E σ a w c o e.ws:=by
 simp only[ml,ho]at h;obtain⟨v,h1,h⟩:=Rd.bind_some h;obtain⟨ev,kv⟩:=jb dK h1;cases op with
 |not=>
  cases v with
  |b b=>refine fX cf dK hd h (v:= .bool !b) rfl (λn hn=>by simp[cO,bS]at hn) ?_;unfold execOp;rw[ho];refine ja ?_;rw[show a.eval x= .bool b from ev];rfl
  |_=>simp at h
 |neg=>
  cases v with
  |i k n=>refine fX cf dK hd h (v:= .int k (k.wrap (0-n))) rfl (λn hn=>by simp[cO,bS]at hn) ?_;unfold execOp;rw[ho];refine ja ?_;rw[show a.eval x= .int k n from ev];rfl
  |_=>simp at h
 |_=>cases v<;>simp at h
theorem rT{E:fQ}{σ:St}{t:aF}{k:Ck}(h:(p8 E t).val σ=ah k):∃ti,E.ty t=ah ti/\ti.agg=ak/\ti.ks=[k]:=by
 obtain⟨ti,h1,h2⟩:=Rd.bind_some h;split at h2
 ·rename_i k' h3 h4;simp at h2;subst h2;exact⟨ti,dW h1,h3,h4⟩
 ·simp at h2
theorem kP{E:fQ}{σ:St}(hE:eH P E){t e:aF}(h:(p8 E t).val σ=ah (.l e)):P.underlying t=ah (.slice e):=by obtain⟨ti,h1,h2,h3⟩:=rT h;exact pr hE h1 h2 h3
theorem lu{E:fQ}{σ:St}(hE:eH P E){t:aF}(h:(p8 E t).val σ=ah .s):P.underlying t=ah .string:=by obtain⟨ti,h1,h2,h3⟩:=rT h;obtain⟨d,hd,_,hn⟩:=hE.desc t ti h1;rcases hn h2 with ⟨k,h,_⟩|⟨h,_⟩|⟨h,rfl⟩|⟨e',h,_⟩|⟨h,_⟩<;>rw[h3]at h<;>simp_all
theorem UA(hE:eH P E)(cf:Ok E σ w c)(dK:fE E σ a w c)(hd:∀d,o.dst=ah d->d<a.tmps.size){x y:dy}{t:aF}(ho:o.op= .index t x y)(h:(ml E nm o).val σ=ah e)(hc:e.cond=ai):gZ P E σ a w c o e.ws:=by
 simp only[ml,ho]at h;obtain⟨kk,h0,h⟩:=Rd.bind_some h;obtain⟨v,h1,h⟩:=Rd.bind_some h;obtain⟨⟨k,n⟩,h2,h⟩:=Rd.bind_some h;obtain⟨ev,kv⟩:=jb dK h1;have ei:=p_ dK h2;cases kk with
 |s=>cases v with
  |s s=>
   have hu:=lu hE h0;refine FD cf dK hd h hc (v:= .int .u8 ((s.data.getD n.toNat 0).toNat:aw)) (λ_=>rfl) (uI rfl) (λhb=> ?_);simp only[aL,bf]at hb;obtain⟨h0,h3⟩:=hb;unfold execOp;rw[ho];refine ja ?_;replace ev:a.eval x= .string s:=ev.1;have jD:n.toNat<s.size:=by omega
   have hg:s[n.toNat]? =ah s[n.toNat]:=by simp[jD]
   have hs:s[n.toNat]=s.data.getD n.toNat 0:=by rw[Array.getD,dif_pos (show n.toNat<s.data.size from jD)];rfl
   simp only[ev,ei,Instr.index,asIntOf,cj,cT,bG,run_underlying hu,h0,if_true,hg,hs]
  |_=>simp at h
 |_=>simp at h
end
end Go.FG

namespace Go.FG
section
variable {P:c5} {E:fQ} {σ:St} {a:Act} {w:bL} {c:e9} {o:fC} {nm:aF} {e:s8}
theorem qN{α:Type}{b:aX}{x:α}{σ:St}{r:α}(h:(bif b then Rd.ret x else Rd.fail).val σ=ah r):b=ai/\r=x:=by obtain⟨h1,h2⟩:=cR h;exact⟨h1,(aJ h2).symm⟩
theorem fa{p:Pl}(h:p.nil=ak):lW p= .slice (ah (ad p.blk p.off)) p.n p.cap:=by unfold lW;rw[bH (by simp[h])]
theorem nO{p:Pl}(h:p.nil=ai):lW p= .slice aj 0 0:=by unfold lW;rw[bz h]
theorem ly{nm e:aF}{ex:aX}{xs:aR}(cf:Ok E σ w c)(h:σ (c8 nm)= .o (.row e ex xs)):
  (c.P nm).n=xs.length/\((c.P nm).nil=ai->xs=[])/\∃ti,E.ty e=ah ti/\(c.P nm).sz=ti.ks.length/\((c.P nm).nil=ak->(c.P nm).n<=(c.P nm).cap/\(c.P nm).cap<=maxLen):=by have m9:=cf.obj nm _ h;obtain⟨ti,h1,h2,_⟩:=m9.sh;exact⟨m9.at_.n,λhn=>(m9.at_.nil hn).1,ti,h1,h2,λhn=>by obtain⟨_,_,h3,h4,_⟩:=m9.at_.mem hn;exact⟨h3,h4⟩⟩
theorem na{nm e:aF}{xs:aR}(cf:Ok E σ w c)(h:σ (c8 nm)= .o (.fT e xs)):
  (c.P nm).n=xs.length/\((c.P nm).nil=ai->xs=[])/\∃ti,E.ty e=ah ti/\(c.P nm).sz=ti.ks.length:=by
 obtain⟨h1,h2,h3⟩:=cf.obj nm _ h;refine⟨h2,λhn=> ?_,h3⟩
 rw[nO hn]at h1;cases h1;rfl
theorem Hu(hE:eH P E)(cf:Ok E σ w c)(dK:fE E σ a w c)(hd:∀d,o.dst=ah d->d<a.tmps.size){x y:dy}{t:aF}(ho:o.op= .indexAddr t x y)(h:(ml E nm o).val σ=ah e)(hc:e.cond=ai):gZ P E σ a w c o e.ws:=by
 simp only[ml,ho]at h;obtain⟨kk,h0,h⟩:=Rd.bind_some h;cases kk with
 |l el=>
  obtain⟨v,h1,h⟩:=Rd.bind_some h;obtain⟨⟨k,n⟩,h2,h⟩:=Rd.bind_some h;obtain⟨⟨b,q⟩,h3,h⟩:=Rd.bind_some h;obtain⟨ev,kv⟩:=jb dK h1;have ei:=p_ dK h2;have hu:=kP hE h0;have run:∀te b o' m cp,E.ty el=ah te->a.eval x= .slice (ah (ad b o')) m cp->0<=n->n<(m:aw)->(execOp a.eval o).run P w= .ok (.value (.pointer (ah (ad b (o'+n.toNat*te.ks.length))))) w:=by intro te b o' m cp Lk hx h0 h1;unfold execOp;rw[ho];refine ja ?_;rw[hx,ei];exact JS (P:=P) w hE hu Lk b o' m cp k n h0 h1
  cases v with
  |sh e' xs=>
   obtain⟨D4,h3⟩:=qN h3;obtain⟨rfl,rfl⟩:=bW h3;have:=aU D4;subst this;obtain rfl:=aJ h;have hc:(decide (0<=n)&&decide (n<(xs.length:aw)))=true:=hc;simp only[aL,bf]at hc;obtain⟨c0,c1⟩:=hc;have ev:c_ E w c.K (a.eval x) (.l el xs):=ev;generalize hv:a.eval x=v at ev;have iB:0<xs.length:=by omega
   cases ev with
   |nl=>simp at iB
   |l _ _ bb oo cc ti U ht Ps hmx hK hs hcell gg=>exact gJ cf dK hd (s:= .v ak [.sp el xs n.toNat 0]) (v:= .pointer (ah (ad bb (oo+n.toNat*ti.ks.length)))) ⟨bb,oo,cc,ti, .l el xs bb oo cc ti U ht Ps hmx hK hs hcell gg,by omega,ht,rfl⟩ (λn hn=>by simp[cO,bS]at hn) (run ti bb oo _ cc ht hv c0 c1)
  |own iG=>
   obtain⟨ob,hg,h3⟩:=Rd.bind_some h3;have hg:=dz hg;have main:∀(xs:aR),(c.P iG).n=xs.length->((c.P iG).nil=ai->xs=[])->(∃ti,E.ty el=ah ti/\(c.P iG).sz=ti.ks.length)->(b,q)=(decide (0<=n)&&decide (n<(xs.length:aw)),AV.rp iG n.toNat 0)->gZ P E σ a w c o e.ws:=by
    intro xs hn jE X0 hbq;obtain⟨rfl,rfl⟩:=bW hbq;obtain rfl:=aJ h;have hc:(decide (0<=n)&&decide (n<(xs.length:aw)))=true:=hc;simp only[aL,bf]at hc;obtain⟨c0,c1⟩:=hc;obtain⟨ti,ht,gh⟩:=X0;have Pz:(c.P iG).nil=false:=by
     cases hq:(c.P iG).nil with
     |false=>rfl
     |true=>rw[jE hq]at c1;simp at c1;omega
    have hx:a.eval x= .slice (ah (ad (c.P iG).blk (c.P iG).off)) (c.P iG).n (c.P iG).cap:=by rw[<-fa Pz];exact ev
    refine gJ cf dK hd (s:= .v ak [.rp iG n.toNat 0]) (v:= .pointer (ah (ad (c.P iG).blk ((c.P iG).off+n.toNat*ti.ks.length)))) ⟨by omega,by rw[gh];rfl⟩ (λm hm=>by simp[cO,bS]at hm;subst hm;rw[hg];simp) (run ti _ _ _ _ ht hx c0 (by rw[hn];exact c1))
   cases ob with
   |row e' ex xs=>obtain⟨D4,h4⟩:=qN h3;have:=aU D4;subst this;obtain⟨i1,i2,ti,i3,i4,_⟩:=ly cf hg;exact main xs i1 i2 ⟨ti,i3,i4⟩ h4
   |fT e' xs=>obtain⟨D4,h4⟩:=qN h3;have:=aU D4;subst this;obtain⟨i1,i2,i3⟩:=na cf hg;exact main xs i1 i2 i3 h4
   |_=>simp at h3
  |vw iG lo hi=>
   obtain⟨ob,hg,h3⟩:=Rd.bind_some h3;have hg:=dz hg;have main:∀(xs:aR),(c.P iG).n=xs.length->(∃ti,E.ty el=ah ti/\(c.P iG).sz=ti.ks.length)->(b,q)=(decide (0<=n)&&decide (n<((hi-lo:aF):aw)),AV.rp iG (lo+n.toNat) 0)->gZ P E σ a w c o e.ws:=by
    intro xs hn X0 hbq;obtain⟨rfl,rfl⟩:=bW hbq;obtain rfl:=aJ h;have hc:(decide (0<=n)&&decide (n<((hi-lo:aF):aw)))=true:=hc;simp only[aL,bf]at hc;obtain⟨c0,c1⟩:=hc;obtain⟨ti,ht,gh⟩:=X0;obtain⟨v1,v2,v3,v4⟩:=ev;have Pz:(c.P iG).nil=false:=by
     cases hq:(c.P iG).nil with
     |false=>rfl
     |true=>
      obtain⟨f1,_⟩:(c.P iG).n=0/\True:=by
       have m9:=cf.obj iG _ hg;rw[hn];cases ob with
       |row e' ex ys=>obtain⟨j1,j2,_⟩:=ly cf hg;rw[<-hn,j1,j2 hq];simp
       |fT e' ys=>obtain⟨j1,j2,_⟩:=na cf hg;rw[<-hn,j1,j2 hq];simp
       |_=>simp at h3
      omega
    rcases v4 Pz with ⟨u1,hx⟩|⟨u1,oo,u2,hx⟩
    ·refine gJ cf dK hd (s:= .v ak [.rp iG (lo+n.toNat) 0]) (v:= .pointer (ah (ad (c.P iG).blk ((c.P iG).off+lo*(c.P iG).sz+n.toNat*ti.ks.length)))) ⟨by omega, ?_⟩ (λm hm=>by simp[cO,bS]at hm;subst hm;rw[hg];simp) (run ti _ _ _ _ ht hx c0 c1);rw[<-gh,show(c.P iG).off+(lo+n.toNat)*(c.P iG).sz+0=(c.P iG).off+lo*(c.P iG).sz+n.toNat*(c.P iG).sz by rw[dp];omega]
    ·exfalso;have Ps:(c.P iG).n<=(c.P iG).cap:=by
      cases ob with
      |row e' ex ys=>obtain⟨_,_,_,_,_,j⟩:=ly cf hg;exact(j Pz).1
      |fT e' ys=>
       obtain⟨j1,j2,_⟩:=cf.obj iG _ hg;rw[fa Pz]at j1;by_cases hz:0<ys.length
       ·obtain⟨t3,U,L⟩:=j1.Jw hz;rw[j2];exact L.cap
       ·omega
      |_=>simp at h3
     omega
   cases ob with
   |row e' ex xs=>obtain⟨D4,h4⟩:=qN h3;have:=aU D4;subst this;obtain⟨i1,i2,ti,i3,i4,_⟩:=ly cf hg;exact main xs i1 ⟨ti,i3,i4⟩ h4
   |fT e' xs=>obtain⟨D4,h4⟩:=qN h3;have:=aU D4;subst this;obtain⟨i1,i2,i3⟩:=na cf hg;exact main xs i1 i3 h4
   |_=>simp at h3
  |inn iG i j=>
   obtain⟨ob,hg,h3⟩:=Rd.bind_some h3;have hg:=dz hg;cases ob with
   |row e' ex xs=>
    cases ex with
    |false=>simp at h3
    |true=>
     obtain⟨te,ht,h3⟩:=Rd.bind_some h3;have ht:=dW ht;split at h3
     ·rename_i e2 Ap;obtain⟨D4,h3⟩:=qN h3;obtain⟨rfl,rfl⟩:=bW h3;have:=aU D4;subst this;obtain rfl:=aJ h;obtain⟨⟨mi,hx⟩,hFv⟩:=ev;obtain⟨⟨tj,htj,gh,mR⟩,gf,_⟩:=cf.obj iG _ hg;obtain rfl:te=tj:=aJ (ht.symm.trans htj);obtain⟨zs,y',hy,hyj,uu,_,tk,Hg,s5,Lj,D8,oV⟩:=uP (c:=c) gf mR mi Ap;have hc:(decide (0<=n)&&decide (n<((jz (ar xs i j)).length:aw)))=true:=hc;rw[fG hy hyj]at hc;simp only[aL,bf]at hc;obtain⟨c0,c1⟩:=hc;have c1:n<(zs.length:aw):=c1;have Pz:(c.G iG i j).nil=false:=by
       cases hq:(c.G iG i j).nil with
       |false=>rfl
       |true=>have:=(oV.nil hq).1;subst this;simp at c1;omega
      rw[fa Pz]at hx;refine gJ cf dK hd (s:= .v ak [.ip iG i j n.toNat 0]) (v:= .pointer (ah (ad (c.G iG i j).blk ((c.G iG i j).off+n.toNat*tk.ks.length)))) ⟨⟨mi,by rw[oV.n];omega,by rw[Lj];rfl⟩,hFv⟩ (λm hm=>by simp[cO,bS]at hm;subst hm;rw[hg];simp) (run tk _ _ _ _ Hg hx c0 (by rw[oV.n];exact c1))
     ·simp at h3
   |_=>simp at h3
  |_=>simp[Td]at h3
 |_=>simp at h
end
end Go.FG

namespace Go.FG
section
variable {P:c5} {E:fQ} {σ:St} {a:Act} {w:bL} {c:e9} {o:fC} {nm:aF} {e:s8}
theorem BD(dK:fE E σ a w c){x:aC dy}{d n:aw}(h:(oi x d).val σ=ah n):(x=aj/\n=d)\/∃y k,x=ah y/\a.eval y= .int k n:=by
 cases x with
 |none=>exact .inl ⟨rfl,(aJ h).symm⟩
 |some y=>obtain⟨⟨k,m⟩,h1,h2⟩:=Rd.bind_some h;obtain rfl:=aJ h2;exact .inr ⟨y,k,rfl,p_ dK h1⟩
theorem Fx{x:bk}{k:nA}{n:aw}{y:aF}{code:BoundsCode}(hx:x= .int k n)(h0:0<=n)(h1:n<=y):(qZ x y code).run P w= .ok n.toNat w:=by subst hx;simp only[qZ,asIntOf,cj,cT,bG,h0,h1,and_self,if_true]
theorem C7(dK:fE E σ a w c){isS:aX}{len cap:aF}{lo hi:aC dy}{l h:aw}(hl:(oi lo 0).val σ=ah l)(hh:(oi hi len).val σ=ah h)(h0:0<=l)(h1:l<=h)(h2:h<=cap):
  (nh isS len cap (lo.map a.eval) (hi.map a.eval) aj).run P w= .ok (l.toNat,h.toNat,cap) w:=by
 have low:∀v,lo=ah v->∀code,(qZ (a.eval v) h.toNat code).run P w= .ok l.toNat w:=by
  intro v hv code;rcases BD dK hl with ⟨hx,_⟩|⟨y,k,hx,hy⟩
  ·rw[hx]at hv;cases hv
  ·rw[hx]at hv;cases hv;exact Fx hy h0 (by omega)
 have high:∀v,hi=ah v->∀code,(qZ (a.eval v) cap code).run P w= .ok h.toNat w:=by
  intro v hv code;rcases BD dK hh with ⟨hx,_⟩|⟨y,k,hx,hy⟩
  ·rw[hx]at hv;cases hv
  ·rw[hx]at hv;cases hv;exact Fx hy (by omega) h2
 have l0:lo=aj->l=0:=λhx=>by rcases BD dK hl with ⟨_,hn⟩|⟨y,k,hy,_⟩;exact hn;rw[hx]at hy;cases hy
 have Ws:hi=aj->h=len:=λhx=>by rcases BD dK hh with ⟨_,hn⟩|⟨y,k,hy,_⟩;exact hn;rw[hx]at hy;cases hy
 cases lo with
 |none=>
  obtain rfl:=l0 rfl;cases hi with
  |none=>obtain rfl:=Ws rfl;simp[nh]
  |some v=>simp[nh,high v rfl]
 |some u=>
  cases hi with
  |none=>obtain rfl:=Ws rfl;have:=low u rfl;simp only[dG]at this;simp[nh,this]
  |some v=>simp[nh,high v rfl,low u rfl]
theorem LS{t:aF}(hu:P.underlying t=ah .string)(dK:fE E σ a w c){lo hi:aC dy}{l h:aw}{s:aq}(hl:(oi lo 0).val σ=ah l)(hh:(oi hi s.size).val σ=ah h)(h0:0<=l)(h1:l<=h)(h2:h<=(s.size:aw)):
  (qD t (.string s) (lo.map a.eval) (hi.map a.eval) aj).run P w= .ok (.string (s.extract l.toNat h.toNat)) w:=by simp only[qD,Instr.slice,cj,run_underlying hu,bG,Option.isSome_none,dx,if_false,C7 (P:=P) dK hl hh h0 h1 h2,cT]
theorem kS{t el:aF}{te:TI}(hE:eH P E)(hu:P.underlying t=ah (.slice el))(he:E.ty el=ah te)(dK:fE E σ a w c){lo hi:aC dy}{l h:aw}{A:aC Addr}{n cp:aF}(hl:(oi lo 0).val σ=ah l)(hh:(oi hi n).val σ=ah h)(h0:0<=l)(h1:l<=h)(h2:h<=(cp:aw)):
  (qD t (.slice A n cp) (lo.map a.eval) (hi.map a.eval) aj).run P w= .ok (.slice (if cp=l.toNat then A else A.map (·.add (l.toNat*te.ks.length))) (h.toNat-l.toNat) (cp-l.toNat)) w:=by obtain⟨inf,mh,gh,_⟩:=hE.info el te he;simp only[qD,Instr.slice,cj,run_underlying hu,bG,C7 (P:=P) dK hl hh h0 h1 h2,sizeOf,typeInfo,program,nB,mh,gh,cT]
theorem uh{xs:aR}{lo hi i:aF}:(eA xs lo hi)[i]? =if i<hi-lo then xs[lo+i]? else none:=by unfold eA;rw[d_];split<;>simp[dQ]
theorem mG{xs:aR}{lo hi:aF}(h:hi<=xs.length):(eA xs lo hi).length=hi-lo:=by unfold eA;simp;omega
theorem CJ{xs:aR}{lo hi:aF}{y:az CV}(h:y∈eA xs lo hi):y∈xs:=la (ld h)
theorem aec{K:aF->Prop}{v:bk}{el:aF}{xs:aR}{te:TI}(he:E.ty el=ah te)(h:c_ E w K v (.l el xs)){lo hi:aF}(h1:lo<=hi)(h2:hi<=xs.length):
  ∃A n cp,v= .slice A n cp/\n=xs.length/\n<=cp\/∃A cp,v= .slice A 0 cp/\xs=[]:=by
 cases h with
 |nl=>exact⟨aj,0,0, .inr ⟨_,_,rfl,rfl⟩⟩
 |l _ _ b oo cp ti U ht hc=>exact⟨_,_,_, .inl ⟨rfl,rfl,hc⟩⟩
theorem Fc{K:aF->Prop}{A:aC Addr}{n cp el:aF}{xs:aR}{te:TI}(he:E.ty el=ah te)(h:c_ E w K (.slice A n cp) (.l el xs)){lo hi:aF}(h1:lo<=hi)(h2:hi<=xs.length):
  n=xs.length/\c_ E w K (.slice (if cp=lo then A else A.map (·.add (lo*te.ks.length))) (hi-lo) (cp-lo)) (.l el (eA xs lo hi)):=by
 generalize hv:Value.slice A n cp=v at h;generalize hx:CV.l el xs=x at h;cases h with
 |i=>cases hx
 |b=>cases hx
 |s=>cases hx
 |nl=>
  cases hx;cases hv;have:hi=0:=by simpa using h2
  subst this;have:lo=0:=by omega
  subst this;exact⟨rfl, .nl _ _ _⟩
 |l _ _ b oo cp ti U ht hc hm hK hs hcell gg=>
  cases hx;cases hv;refine⟨rfl, ?_⟩
  obtain rfl:te=ti:=aJ (he.symm.trans ht);by_cases hz:hi-lo=0
  ·rw[hz];have:eA xs lo hi=[]:=by unfold eA;rw[hz];simp
   rw[this];exact .nl _ _ _
  ·rw[bH (by omega)];simp only[jh,Addr.oa];have hl:=mG (xs:=xs) (lo:=lo) h2;rw[<-hl];refine .l el (eA xs lo hi) b (oo+lo*te.ks.length) (cp-lo) te (λi j=>U (lo+i) j) ht (by rw[hl];omega) (by omega) hK (λy hy=>hs y (CJ hy)) (λi j y x mh hj=> ?_) (λi j y x mh hj=> ?_)
   ·rw[uh]at mh;split at mh
    ·have:=hcell (lo+i) j y x mh hj;rw[<-this];congr 2;rw[dp];omega
    ·cases mh
   ·rw[uh]at mh;split at mh
    ·exact gg (lo+i) j y x mh hj
    ·cases mh
theorem UB(hE:eH P E)(cf:Ok E σ w c)(dK:fE E σ a w c)(hd:∀d,o.dst=ah d->d<a.tmps.size){x:dy}{t:aF}{lo hi mx:aC dy}(ho:o.op= .slice t x lo hi mx)(h:(ml E nm o).val σ=ah e)(hc:e.cond=ai):gZ P E σ a w c o e.ws:=by
 simp only[ml,ho]at h;cases mx with
 |some m=>simp at h
 |none=>
 obtain⟨kk,hk,h⟩:=Rd.bind_some h;obtain⟨v,h1,h⟩:=Rd.bind_some h;obtain⟨⟨b,q⟩,h3,h⟩:=Rd.bind_some h;obtain⟨ev,kv⟩:=jb dK h1;have exec:∀{u r:bk},a.eval x=u->(qD t u (lo.map a.eval) (hi.map a.eval) aj).run P w= .ok r w->(execOp a.eval o).run P w= .ok (.value r) w:=by intro u r hu hr;unfold execOp;rw[ho];exact ja (by rw[hu];exact hr)
 cases kk with
 |s=>cases v with
  |s s=>have hu:=lu hE hk;obtain⟨l,hl,h3⟩:=Rd.bind_some h3;obtain⟨hh,A7,h3⟩:=Rd.bind_some h3;obtain⟨rfl,rfl⟩:=bW (aJ h3);obtain rfl:=aJ h;have hc:g8 l hh s.size=true:=hc;simp only[g8,aL,bf]at hc;obtain⟨⟨c0,c1⟩,c2⟩:=hc;exact gJ cf dK hd (s:= .v ak [.s _]) (v:= .string _) ⟨rfl,by have h5:=ev.2;unfold Ec at h5⊢;rw[yJ];omega⟩ (λn hn=>by simp[cO,bS]at hn) (exec ev.1 (LS (P:=P) hu dK hl A7 c0 c1 c2))
  |_=>simp[LY]at h3
 |l el=>
  have hu:=kP hE hk;obtain⟨te,Lk,h3⟩:=Rd.bind_some h3;have Lk:=dW Lk;cases v with
  |sh e' xs=>
   obtain⟨D4,h4⟩:=cR h3;have:=aU D4;subst this;obtain⟨l,hl,h4⟩:=Rd.bind_some h4;obtain⟨hh,A7,h4⟩:=Rd.bind_some h4;obtain⟨rfl,rfl⟩:=bW (aJ h4);obtain rfl:=aJ h;have hc:g8 l hh xs.length=true:=hc;simp only[g8,aL,bf]at hc;obtain⟨⟨c0,c1⟩,c2⟩:=hc;have ev:c_ E w c.K (a.eval x) (.l el xs):=ev;generalize hv:a.eval x=v at ev;cases ev with
   |nl _ A cp=>
    have h0:hh=0:=by simp at c2;omega
    have l0:l=0:=by omega
    subst h0;subst l0;have hr:=kS (P:=P) (te:=te) hE hu Lk dK (A:=A) (n:=0) (cp:=cp) hl A7 (by omega) (by omega) (by omega);exact gJ cf dK hd (s:= .v ak [.sh el (eA [] (0:aw).toNat (0:aw).toNat)]) (.nl _ _ _) (λn hn=>by simp[cO,bS]at hn) (exec hv hr)
   |l _ _ bb oo cp ti U ht Ps hmx hK hs hcell gg=>have hr:=kS (P:=P) (te:=ti) hE hu ht dK (A:=ah (ad bb oo)) (cp:=cp) hl A7 c0 c1 (by omega);have arL:=(Fc (lo:=l.toNat) (hi:=hh.toNat) ht (.l el xs bb oo cp ti U ht Ps hmx hK hs hcell gg) (by omega) (by omega)).2;exact gJ cf dK hd (s:= .v ak [.sh el (eA xs l.toNat hh.toNat)]) arL (λn hn=>by simp[cO,bS]at hn) (exec hv hr)
  |own iG=>
   obtain⟨ob,hg,h3⟩:=Rd.bind_some h3;have hg:=dz hg
   have main:∀(xs:aR),(c.P iG).n=xs.length->((c.P iG).nil=ai->xs=[])->(∃ti,E.ty el=ah ti/\(c.P iG).sz=ti.ks.length)->((c.P iG).nil=ak->(c.P iG).n<=(c.P iG).cap)->
     ((oi lo 0).bind λl=>(oi hi xs.length).bind λh=>Rd.ret (g8 l h xs.length,AV.vw iG l.toNat h.toNat)).val σ=ah (b,q)->gZ P E σ a w c o e.ws:=by
    intro xs hn jE X0 hcp h4
    obtain⟨l,hl,h4⟩:=Rd.bind_some h4
    obtain⟨hh,A7,h4⟩:=Rd.bind_some h4
    obtain⟨rfl,rfl⟩:=bW (aJ h4)
    obtain rfl:=aJ h
    have hc:g8 l hh xs.length=true:=hc
    simp only[g8,aL,bf]at hc
    obtain⟨⟨c0,c1⟩,c2⟩:=hc
    obtain⟨ti,ht,gh⟩:=X0
    have ev:a.eval x=lW (c.P iG):=ev
    cases hq:(c.P iG).nil with
    |true=>
     rw[nO hq]at ev;have hx:=jE hq;subst hx;have h0:hh=0:=by simp at c2;omega
     have l0:l=0:=by omega
     subst h0;subst l0;have hr:=kS (P:=P) (te:=ti) hE hu ht dK (A:=aj) (n:=0) (cp:=0) hl A7 (by omega) (by omega) (by simp);refine gJ cf dK hd (s:= .v ak [.vw iG 0 0]) (v:= .slice aj 0 0) ⟨cF _,bI _,λ_=>rfl,λhf=>by rw[hq]at hf;cases hf⟩ (λm hm=>by simp[cO,bS]at hm;subst hm;rw[hg];simp) (exec ev (by simpa using hr))
    |false=>
     rw[fa hq]at ev;have hcp:=hcp hq;have hr:=kS (P:=P) (te:=ti) hE hu ht dK (A:=ah (ad (c.P iG).blk (c.P iG).off)) (n:=(c.P iG).n) (cp:=(c.P iG).cap) hl (by rw[hn];exact A7) c0 c1 (by omega);refine gJ cf dK hd (s:= .v ak [.vw iG l.toNat hh.toNat]) ⟨by omega,by omega,λhf=>(by rw[hq]at hf;cases hf),λ_=> ?_⟩ (λm hm=>by simp[cO,bS]at hm;subst hm;rw[hg];simp) (exec ev hr);by_cases hle:(c.P iG).cap=l.toNat
     ·refine .inr ⟨hle.symm,(c.P iG).off,by omega, ?_⟩;rw[bz hle,show hh.toNat-l.toNat=0 by omega,show(c.P iG).cap-l.toNat=0 by omega]
     ·refine .inl ⟨by omega, ?_⟩;rw[bH hle];simp only[jh,Addr.oa,gh]
   cases ob with
   |row e' ex xs=>obtain⟨D4,h4⟩:=cR h3;have:=aU D4;subst this;obtain⟨i1,i2,ti,i3,i4,i5⟩:=ly cf hg;exact main xs i1 i2 ⟨ti,i3,i4⟩ (λh=>(i5 h).1) h4
   |fT e' xs=>
    obtain⟨D4,h4⟩:=cR h3;have:=aU D4;subst this;obtain⟨i1,i2,i3⟩:=na cf hg;refine main xs i1 i2 i3 (λPz=> ?_) h4;obtain⟨j1,j2,_⟩:=cf.obj iG _ hg;rw[fa Pz]at j1;by_cases hz:0<xs.length
    ·obtain⟨t3,U,L⟩:=j1.Jw hz;rw[j2];exact L.cap
    ·omega
   |_=>simp at h3
  |vw iG Eb sC=>
   obtain⟨ob,hg,h3⟩:=Rd.bind_some h3;have hg:=dz hg
   have main:(∃ti,E.ty el=ah ti/\(c.P iG).sz=ti.ks.length)->((c.P iG).nil=ai->(c.P iG).n=0)->((c.P iG).nil=ak->(c.P iG).n<=(c.P iG).cap)->
     ((oi lo 0).bind λl=>(oi hi ((sC-Eb:aF):aw)).bind λh=>Rd.ret (g8 l h ((sC-Eb:aF):aw),AV.vw iG (Eb+l.toNat) (Eb+h.toNat))).val σ=ah (b,q)->gZ P E σ a w c o e.ws:=by
    intro X0 jE hcp h4
    obtain⟨l,hl,h4⟩:=Rd.bind_some h4
    obtain⟨hh,A7,h4⟩:=Rd.bind_some h4
    obtain⟨rfl,rfl⟩:=bW (aJ h4)
    obtain rfl:=aJ h
    have hc:g8 l hh ((sC-Eb:aF):aw)=true:=hc
    simp only[g8,aL,bf]at hc
    obtain⟨⟨c0,c1⟩,c2⟩:=hc
    obtain⟨ti,ht,gh⟩:=X0
    obtain rfl:te=ti:=aJ (Lk.symm.trans ht)
    obtain⟨v1,v2,v3,v4⟩:=ev
    cases hq:(c.P iG).nil with
    |true=>
     have hz:=jE hq;have ex:=v3 hq;have hi0:sC=0:=by omega
     have lo0:Eb=0:=by omega
     subst hi0;subst lo0;have h0:hh=0:=by simp at c2;omega
     have l0:l=0:=by omega
     subst h0;subst l0;have hr:=kS (P:=P) (te:=te) hE hu ht dK (A:=aj) (n:=0) (cp:=0) hl (by simpa using A7) (by omega) (by omega) (by simp);refine gJ cf dK hd (s:= .v ak [.vw iG (0+(0:aw).toNat) (0+(0:aw).toNat)]) (v:= .slice aj 0 0) ⟨cF _,bI _,λ_=>rfl,λhf=>by rw[hq]at hf;cases hf⟩ (λm hm=>by simp[cO,bS]at hm;subst hm;rw[hg];simp) (exec ex (by simpa using hr))
    |false=>
     have hcp:=hcp hq;rcases v4 hq with ⟨u1,ex⟩|⟨u1,oo,u2,ex⟩
     ·have hr:=kS (P:=P) (te:=te) hE hu ht dK (A:=ah (ad (c.P iG).blk ((c.P iG).off+Eb*(c.P iG).sz))) (n:=sC-Eb) (cp:=(c.P iG).cap-Eb) hl A7 c0 c1 (by omega);refine gJ cf dK hd (s:= .v ak [.vw iG (Eb+l.toNat) (Eb+hh.toNat)]) ⟨by omega,by omega,λhf=>(by rw[hq]at hf;cases hf),λ_=> ?_⟩ (λm hm=>by simp[cO,bS]at hm;subst hm;rw[hg];simp) (exec ex hr);by_cases hle:(c.P iG).cap-Eb=l.toNat
      ·refine .inr ⟨by omega,(c.P iG).off+Eb*(c.P iG).sz, ?_, ?_⟩
       ·have:=b8 (c.P iG).sz (Nat.le_of_lt u1);omega
       ·rw[bz hle,show hh.toNat-l.toNat=0 by omega,show(c.P iG).cap-Eb-l.toNat=0 by omega]
      ·refine .inl ⟨by omega, ?_⟩;rw[bH hle];simp only[jh,Addr.oa,gh];rw[show Eb+hh.toNat-(Eb+l.toNat)=hh.toNat-l.toNat by omega,show(c.P iG).cap-(Eb+l.toNat)=(c.P iG).cap-Eb-l.toNat by omega,dp,me]
     ·have hr:=kS (P:=P) (te:=te) hE hu ht dK (A:=ah (ad (c.P iG).blk oo)) (n:=0) (cp:=0) hl (by rw[show sC-Eb=0 by omega]at A7;exact A7) c0 c1 (by omega);have h0:hh=0:=by omega
      have l0:l=0:=by omega
      subst h0;subst l0;refine gJ cf dK hd (s:= .v ak [.vw iG (Eb+(0:aw).toNat) (Eb+(0:aw).toNat)]) (v:= .slice (ah (ad (c.P iG).blk oo)) 0 0) ⟨cF _,by simp;omega,λhf=>(by rw[hq]at hf;cases hf),λ_=> .inr ⟨by simpa using u1,oo,u2,rfl⟩⟩ (λm hm=>by simp[cO,bS]at hm;subst hm;rw[hg];simp) (exec ex (by simpa using hr))
   cases ob with
   |row e' ex xs=>obtain⟨D4,h4⟩:=cR h3;have:=aU D4;subst this;obtain⟨i1,i2,ti,i3,i4,i5⟩:=ly cf hg;exact main ⟨ti,i3,i4⟩ (λhn=>by rw[i1,i2 hn];rfl) (λh=>(i5 h).1) h4
   |fT e' xs=>
    obtain⟨D4,h4⟩:=cR h3;have:=aU D4;subst this;obtain⟨i1,i2,i3⟩:=na cf hg;refine main i3 (λhn=>by rw[i1,i2 hn];rfl) (λPz=> ?_) h4;obtain⟨j1,j2,_⟩:=cf.obj iG _ hg;rw[fa Pz]at j1;by_cases hz:0<xs.length
    ·obtain⟨t3,U,L⟩:=j1.Jw hz;rw[j2];exact L.cap
    ·omega
   |_=>simp at h3
  |nl=>
   obtain⟨l,hl,h4⟩:=Rd.bind_some h3;obtain⟨hh,A7,h4⟩:=Rd.bind_some h4;obtain⟨rfl,rfl⟩:=bW (aJ h4);obtain rfl:=aJ h;have hc:g8 l hh 0=true:=hc;simp only[g8,aL,bf]at hc;obtain⟨⟨c0,c1⟩,c2⟩:=hc;have h0:hh=0:=by omega
   have l0:l=0:=by omega
   subst h0;subst l0;have hr:=kS (P:=P) (te:=te) hE hu Lk dK (A:=aj) (n:=0) (cp:=0) hl A7 (by omega) (by omega) (by simp);exact gJ cf dK hd (s:= .v ak [.nl]) (v:= .slice aj 0 0) rfl (λn hn=>by simp[cO,bS]at hn) (exec ev (by simpa using hr))
  |_=>simp[Vb]at h3
 |_=>simp[LY]at h3
end
end Go.FG

namespace Go.FG
section
variable {P:c5} {E:fQ} {σ:St} {a:Act} {w:bL} {c:e9} {o:fC} {nm:aF} {e:s8}
theorem P_(cf:Ok E σ w c){x:AV}{v:bk}(hx:eM E w c x v){el:aF}{xs:aR}(h:(mJ E x).val σ=ah (el,xs)):∃A cp,v= .slice A xs.length cp:=by
 cases x with
 |sh e' ys=>
  obtain⟨rfl,rfl⟩:=bW (aJ h);have hx:c_ E w c.K v (.l e' ys):=hx;cases hx with
  |nl=>exact⟨_,_,rfl⟩
  |l=>exact⟨_,_,rfl⟩
 |own n=>
  obtain⟨ob,hg,h⟩:=Rd.bind_some h;have hg:=dz hg;have hx:v=lW (c.P n):=hx;have main:∀ys:aR,(c.P n).n=ys.length->((c.P n).nil=ai->ys=[])->∃A cp,v= .slice A ys.length cp:=by
   intro ys h1 h2;cases hq:(c.P n).nil with
   |true=>rw[hx,nO hq,h2 hq];exact⟨_,_,rfl⟩
   |false=>rw[hx,fa hq,h1];exact⟨_,_,rfl⟩
  cases ob with
  |row e' ex ys=>obtain⟨rfl,rfl⟩:=bW (aJ h);obtain⟨i1,i2,_⟩:=ly cf hg;exact main _ i1 i2
  |fT e' ys=>obtain⟨rfl,rfl⟩:=bW (aJ h);obtain⟨i1,i2,_⟩:=na cf hg;exact main _ i1 i2
  |_=>simp at h
 |vw n lo hi=>
  obtain⟨ob,hg,h⟩:=Rd.bind_some h;have hg:=dz hg;obtain⟨v1,v2,v3,v4⟩:=hx;have main:∀ys:aR,(c.P n).n=ys.length->((c.P n).nil=ai->ys=[])->((c.P n).nil=ak->(c.P n).n<=(c.P n).cap)->∃A cp,v= .slice A (eA ys lo hi).length cp:=by
   intro ys h1 h2 h3;rw[mG (by omega)];cases hq:(c.P n).nil with
   |true=>have:=h2 hq;subst this;rw[v3 hq,show hi-lo=0 by simp at h1;omega];exact⟨_,_,rfl⟩
   |false=>
    rcases v4 hq with ⟨_,h⟩|⟨u1,oo,_,h⟩
    ·rw[h];exact⟨_,_,rfl⟩
    ·have:=h3 hq;rw[h,show hi-lo=0 by omega];exact⟨_,_,rfl⟩
  cases ob with
  |row e' ex ys=>obtain⟨rfl,rfl⟩:=bW (aJ h);obtain⟨i1,i2,ti,_,_,i5⟩:=ly cf hg;exact main _ i1 i2 (λh=>(i5 h).1)
  |fT e' ys=>
   obtain⟨rfl,rfl⟩:=bW (aJ h);obtain⟨i1,i2,_⟩:=na cf hg;refine main _ i1 i2 (λPz=> ?_);obtain⟨j1,j2,_⟩:=cf.obj n _ hg;rw[fa Pz]at j1;by_cases hz:0<ys.length
   ·obtain⟨t3,U,L⟩:=j1.Jw hz;rw[j2];exact L.cap
   ·omega
  |_=>simp at h
 |inn n i j=>
  obtain⟨ob,hg,h⟩:=Rd.bind_some h;have hg:=dz hg;cases ob with
  |row e' ex ys=>
   cases ex with
   |false=>simp at h
   |true=>
   obtain⟨te,ht,h⟩:=Rd.bind_some h;have ht:=dW ht;split at h
   ·rename_i e2 Ap;obtain⟨rfl,rfl⟩:=bW (aJ h);obtain⟨⟨mi,hx⟩,_⟩:=hx;obtain⟨⟨tj,htj,gh,mR⟩,gf,_⟩:=cf.obj n _ hg;obtain rfl:te=tj:=aJ (ht.symm.trans htj);obtain⟨zs,y',hy,hyj,uu,_,tk,Hg,s5,Lj,D8,oV⟩:=uP (c:=c) gf mR mi Ap;rw[fG hy hyj];cases hq:(c.G n i j).nil with
    |true=>rw[hx,nO hq,show jz (.l e2 zs)=zs from rfl,(oV.nil hq).1];exact⟨_,_,rfl⟩
    |false=>rw[hx,fa hq,oV.n];exact⟨_,_,rfl⟩
   ·simp at h
  |_=>simp at h
 |_=>simp[mJ]at h
theorem mZ{cl:Call}{b:Builtin}(ho:o.op= .call cl)(hb:cl.callee= .builtin b):
  ∃cs,(execOp a.eval o).run P w=(builtin b cl.argTypes o.type cs (cl.args.map a.eval)).run P w:=by unfold execOp;rw[ho];simp only[resolve,hb,cj,cT,bG,invoke];exact⟨_,rfl⟩
theorem nL{α:Type}{x:du α}{y:α}(h:x.toList=[y]):x= #[y]:=by apply sH;simpa using h
theorem Dk{α:Type}{x:du α}{y z:α}(h:x.toList=[y,z]):x= #[y,z]:=by apply sH;simpa using h
theorem agp(hE:eH P E)(cf:Ok E σ w c)(dK:fE E σ a w c)(hd:∀d,o.dst=ah d->d<a.tmps.size){cl:Call}(ho:o.op= .call cl)(hb:cl.callee= .builtin .len)(h:(ml E nm o).val σ=ah e):gZ P E σ a w c o e.ws:=by
 simp only[ml,ho,hb]at h;split at h
 ·rename_i x t hx ht;obtain⟨k,hk,h⟩:=Rd.bind_some h;obtain⟨v,h1,h⟩:=Rd.bind_some h;obtain⟨n,h2,h⟩:=Rd.bind_some h;obtain⟨ev,kv⟩:=jb dK h1;have hx:=nL hx;have ht:=nL ht;have exec:∀r,(wB #[t] o.type #[a.eval x]).run P w= .ok r w->(execOp a.eval o).run P w= .ok (.value r) w:=by intro r hr;obtain⟨cs,H6⟩:=mZ (P:=P) (a:=a) (w:=w) ho hb;rw[H6,hx,ht];simp only[builtin,DJ,fD,B0];exact ja hr
  have fin:∀m:aF,n=m->(wB #[t] o.type #[a.eval x]).run P w= .ok (goInt m) w->gZ P E σ a w c o e.ws:=by intro m hm hr;subst hm;exact fX cf dK hd h (v:=goInt m) rfl (λn hn=>by simp[cO,bS]at hn) (exec _ hr)
  cases k with
  |s=>cases v with
   |s s=>obtain rfl:=aJ h2;have ev:a.eval x= .string s:=ev.1;exact fin s.size rfl (by rw[ev];simp[wB,run_underlying (lu hE hk)])
   |_=>simp[afK]at h2
  |l el=>
   have hu:=kP hE hk;have sl:∀A (m:aF) cp,a.eval x= .slice A m cp->n=m->gZ P E σ a w c o e.ws:=by intro A m cp hv hn;exact fin m hn (by rw[hv];simp[wB,run_underlying hu])
   have gen:∀(el':aF) (xs:aR),(mJ E v).val σ=ah (el',xs)->n=xs.length->gZ P E σ a w c o e.ws:=by intro el' xs hr hn;obtain⟨A,cp,hv⟩:=P_ cf ev hr;exact sl _ _ _ hv hn
   cases v with
   |nl=>obtain rfl:=aJ h2;exact sl aj 0 0 ev rfl
   |vw m lo hi=>
    obtain⟨ob,hg,h2⟩:=Rd.bind_some h2;have hg:=dz hg;have r1:∃(e1:aF) (ys:aR),(mJ E (.vw m lo hi)).val σ=ah (e1,eA ys lo hi)/\(c.P m).n=ys.length/\n=((hi-lo:aF):aw):=by
     cases ob with
     |row e1 ex ys=>exact⟨e1,ys,by simp[mJ,jP,hg],(ly cf hg).1,(aJ h2).symm⟩
     |fT e1 ys=>exact⟨e1,ys,by simp[mJ,jP,hg],(na cf hg).1,(aJ h2).symm⟩
     |_=>simp at h2
    obtain⟨e1,ys,h5,h6,h7⟩:=r1;refine gen e1 _ h5 ?_;rw[mG (by have:=ev.2.1;omega)];exact h7
   |_=>obtain⟨⟨el',xs⟩,hr,h3⟩:=Rd.bind_some h2;obtain rfl:=aJ h3;exact gen el' xs hr rfl
  |_=>simp[afK]at h2
 ·simp at h
end
end Go.FG

namespace Go.FG
section
variable {P:c5} {E:fQ} {σ:St} {a:Act} {w:bL} {c:e9} {o:fC} {nm:aF} {e:s8}
theorem zO{α:Type}{x:aC α}{σ:St}{r:α}(h:(UD x).val σ=ah r):x=ah r:=by
 cases x with
 |none=>simp[UD]at h
 |some y=>exact h
theorem ago(hE:eH P E)(cf:Ok E σ w c)(dK:fE E σ a w c)(hd:∀d,o.dst=ah d->d<a.tmps.size){cl:Call}(ho:o.op= .call cl)(hb:cl.callee= .builtin .cap)(h:(ml E nm o).val σ=ah e):gZ P E σ a w c o e.ws:=by
 simp only[ml,ho,hb]at h;split at h
 ·rename_i x t hx ht;obtain⟨k,hk,h⟩:=Rd.bind_some h;have hx:=nL hx;have ht:=nL ht;cases k with
  |l el=>
   obtain⟨v,h1,h⟩:=Rd.bind_some h;obtain⟨ev,kv⟩:=jb dK h1;have hu:=kP hE hk;cases v with
   |nl=>refine fX cf dK hd h (v:=goInt 0) rfl (λn hn=>by simp[cO,bS]at hn) ?_;obtain⟨cs,H6⟩:=mZ (P:=P) (a:=a) (w:=w) ho hb;rw[H6,hx,ht];simp only[builtin,DJ,fD,B0];refine ja ?_;rw[show a.eval x= .slice aj 0 0 from ev];simp[Builtin.cap_,run_underlying hu]
   |_=>simp at h
  |_=>simp at h
 ·simp at h
theorem Lw(dK:fE E σ a w c)(mx:aX):∀(r:az dy) (k:nA) (n:aw) (v:AV),(xT mx r k n).val σ=ah v->
  ∃m,v= .i k m/\((r.map a.eval).foldlM (if mx then Eu else Ew) (.int k n)).run P w= .ok (.int k m) w:=by
 intro r;induction r with
 |nil=>intro k n v h;obtain rfl:=aJ h;exact⟨n,rfl,rfl⟩
 |cons x r ih=>
  intro k n v h;obtain⟨⟨k2,m⟩,h1,h2⟩:=Rd.bind_some h;have hx:=p_ dK h1;obtain⟨q,hq,hr⟩:=ih k (iv mx n m) v h2;refine⟨q,hq, ?_⟩
  simp only[fD,List.foldlM_cons,cj,hx];cases mx with
  |true=>
   have:(Eu (.int k n) (.int k2 m)).run P w= .ok (.int k (iv ai n m)) w:=by simp[Eu,iv]
   simp only[if_true,this,bG]at hr⊢;exact hr
  |false=>
   have:(Ew (.int k n) (.int k2 m)).run P w= .ok (.int k (iv ak n m)) w:=by simp[Ew,iv]
   simp only[dx,if_false,this,bG]at hr⊢;exact hr
theorem Fq(mx:aX)(cf:Ok E σ w c)(dK:fE E σ a w c)(hd:∀d,o.dst=ah d->d<a.tmps.size){cl:Call}(ho:o.op= .call cl)(hb:cl.callee= .builtin (if mx then .max else .min))(h:(ml E nm o).val σ=ah e):gZ P E σ a w c o e.ws:=by
 have main:∀x r,cl.args.toList=x::r->((CR x).bind λ(k,n)=>(xT mx r k n).bind λv=>zZ o v).val σ=ah e->gZ P E σ a w c o e.ws:=by
  intro x r hx h;obtain⟨⟨k,n⟩,h1,h⟩:=Rd.bind_some h;obtain⟨v,h2,h⟩:=Rd.bind_some h;have ex:=p_ dK h1;obtain⟨m,rfl,hr⟩:=Lw (P:=P) dK mx r k n v h2;refine fX cf dK hd h (v:= .int k m) rfl (λn hn=>by simp[cO,bS]at hn) ?_;obtain⟨cs,H6⟩:=mZ (P:=P) (a:=a) (w:=w) ho hb;have sB:cl.args.map a.eval=((x::r).map a.eval).toArray:=by rw[<-hx];apply sH;simp
  rw[H6,sB];cases mx with
  |true=>simp only[if_true,builtin];refine ja ?_;simp only[Builtin.max_,fD,ex];exact hr
  |false=>simp only[dx,if_false,builtin];refine ja ?_;simp only[Builtin.min_,fD,ex];exact hr
 cases mx with
 |true=>
  simp only[ml,ho,hb,if_true]at h;split at h
  ·rename_i x r hx;exact main x r hx h
  ·simp at h
 |false=>
  simp only[ml,ho,hb,dx,if_false]at h;split at h
  ·rename_i x r hx;exact main x r hx h
  ·simp at h
theorem U4{op:BinOp}{t:aF}{k:nA}{m n:aw}{b:aX}{v:AV}(hs:PE op=ak)(h:aeJ op k m n=ah (b,v))(hb:b=ai):
  ∃u,eM E w c v u/\bS v=[]/\(binOp op t (.int k m) (.int k n)).run P w= .ok u w:=by
 subst hb;cases op<;>simp only[aeJ,jG,ji,true_and,reduceCtorEq]at h<;>first|(simp[PE]at hs;done)|skip
 case quo=>
  obtain⟨h1,rfl⟩:=h
  have hn:¬n=0:=by simpa using h1
  exact⟨_,rfl,rfl,by simp[binOp,Op.intDiv,hn]⟩
 case rem=>
  obtain⟨h1,rfl⟩:=h
  have hn:¬n=0:=by simpa using h1
  exact⟨_,rfl,rfl,by simp[binOp,Op.intDiv,hn]⟩
 all_goals (subst h;exact⟨_,rfl,rfl,by simp[binOp,Op.intArith,Op.intBits,Op.intCmp]⟩)
theorem U5{op:BinOp}{t:aF}{m n:aq}{b:aX}{v:AV}(hs:PE op=ak)(h:aeL op m n=ah (b,v))(hb:b=ai):
  ∃u,eM E w c v u/\bS v=[]/\(binOp op t (.string m) (.string n)).run P w= .ok u w:=by
 subst hb;cases op<;>simp only[aeL,jG,ji,true_and,reduceCtorEq]at h<;>first|(simp[PE]at hs;done)|skip
 case add=>
  obtain⟨h1,rfl⟩:=h
  have h1:=cq h1
  refine⟨_,⟨rfl,by unfold Ec;rw[dJ];omega⟩,rfl, ?_⟩
  have:¬(((m.size+n.size:aF):aw)>ao.max):=by
   have:ao.max=9223372036854775807:=by decide
   omega
  simp only[binOp,Op.stringOp,bH this,cT]
 all_goals (subst h;exact⟨_,rfl,rfl,by simp[binOp,Op.stringOp]⟩)
theorem yr{op:BinOp}{t:aF}{x y:dy}{u v:bk}(hu:∀xs,u≠ .agg xs)(hn:u≠ .nilIface):(eqGuard op t x y u v).run P w= .ok () w:=by unfold eqGuard;cases op<;>cases u<;>first|rfl|(exact cJ rfl (hu _))|(exact cJ rfl hn)|(cases v<;>rfl)
theorem yq{P:c5}(w:bL){t:aF}(h:P.underlying t=ah .bool)(m n:aX):(binOp .eql t (.bool m) (.bool n)).run P w= .ok (.bool (m==n)) w/\(binOp .neq t (.bool m) (.bool n)).run P w= .ok (.bool !(m==n)) w:=by
 have h1:(Op.equal t (.bool m) (.bool n)).run P w= .ok (m==n) w:=by show(Op.equalIn (9999+1) t (.bool m) (.bool n)).run P w=_;exact run_equalIn_bool w 9999 t m n h
 simp only[binOp,cj,h1,bG,cT];exact⟨trivial,trivial⟩
theorem C2{xs:az AV}{ks:az Ck}(hk:xs.map Hi=ks)(hp:plain ks=ai){vals:du bk}(hs:vals.size=xs.length)(hv:∀(j:aF) (a:AV),xs[j]? =ah a->∃u:bk,vals[j]? =ah u/\eM E w c a u):vals=(xs.map ma).toArray:=by
 apply sH;apply Wj;intro j;simp only[cY,bK];cases hx:xs[j]? with
 |none=>have:=List.getElem?_eq_none_iff.1 hx;simp;omega
 |some a=>
  obtain⟨u,hu,ha⟩:=hv j a hx;rw[hu];have hm:Hi a∈ks:=by rw[<-hk];exact cW.2 ⟨a,aQ hx,rfl⟩
  have mN:=bu.1 hp _ hm;cases a<;>simp[Hi]at mN<;>first|(have h1:u=_:=ha;rw[h1];rfl)|(have h1:u=_:=ha.1;rw[h1];rfl)
theorem Xk(hE:eH P E){op:BinOp}{t:aF}{x y:dy}{sx sy:SV}{ux uy:bk}(ex:jm E w c sx ux)(ey:jm E w c sy uy){b:aX}{v:AV}(h3:(aeK E t op sx sy).val σ=ah (b,v))(hc:b=ai):
  ∃u,eM E w c v u/\bS v=[]/\(do eqGuard op t x y ux uy;binOp op t ux uy).run P w= .ok u w:=by
 have fin:∀u,eM E w c v u->bS v=[]->(do eqGuard op t x y ux uy;binOp op t ux uy).run P w= .ok u w->∃u,eM E w c v u/\bS v=[]/\(do eqGuard op t x y ux uy;binOp op t ux uy).run P w= .ok u w:=
  λu hu hn hr=>⟨u,hu,hn,hr⟩
 have pl:∀u1 u2 r,ux=u1->uy=u2->(∀xs,u1≠ .agg xs)->u1≠ .nilIface->(binOp op t u1 u2).run P w= .ok r w->(do eqGuard op t x y ux uy;binOp op t ux uy).run P w= .ok r w:=by intro u1 u2 r h1 h2 h3 h4 h5;rw[h1,h2];simp only[cj,yr (P:=P) (w:=w) (op:=op) (t:=t) (x:=x) (y:=y) (v:=u2) h3 h4,bG,h5]
 unfold aeK at h3;split at h3
 ·rename_i p q;have ex:eM E w c p ux:=ex;have ey:eM E w c q uy:=ey;cases mR:PE op with
  |true=>
   rw[mR]at h3;replace h3:=zO h3;cases p<;>cases q<;>first|(simp[shV]at h3;done)|skip
   cases op<;>simp only[shV,jG,ji,reduceCtorEq]at h3<;>(obtain⟨rfl,rfl⟩:=h3)
   ·refine fin _ rfl rfl (pl _ _ _ ex ey (by simp) (by simp) ?_);have:¬(_:aw)<0:=Int.not_lt.2 (cq hc);simp[binOp,Op.shift,this]
   ·refine fin _ rfl rfl (pl _ _ _ ex ey (by simp) (by simp) ?_);have:¬(_:aw)<0:=Int.not_lt.2 (cq hc);simp[binOp,Op.shift,this]
  |false=>
   rw[mR]at h3;obtain⟨k,hk,h3⟩:=Rd.bind_some h3;replace h3:=zO h3;cases p with
   |i k1 m=>
    cases q with
    |i k2 n=>
     have h9:=h3;simp only[KH]at h9;split at h9
     ·rename_i SY;subst SY;obtain⟨u,hu,hn,hr⟩:=U4 (P:=P) (t:=t) (E:=E) (c:=c) (w:=w) mR h9 hc;exact fin u hu hn (pl _ _ _ ex ey (by simp) (by simp) hr)
     ·cases h9
    |_=>simp[KH]at h3
   |s m=>
    cases q with
    |s n=>obtain⟨u,hu,hn,hr⟩:=U5 (P:=P) (t:=t) (E:=E) (c:=c) (w:=w) mR h3 hc;exact fin u hu hn (pl _ _ _ ex.1 ey.1 (by simp) (by simp) hr)
    |_=>simp[KH]at h3
   |b m=>
    cases q with
    |b n=>
     have aa5:k= .b->P.underlying t=ah .bool:=by rintro rfl;obtain⟨ti,q1,q2,q3⟩:=rT hk;obtain⟨d,hd',_,hn⟩:=hE.desc t ti q1;rcases hn q2 with ⟨k,h,_⟩|⟨h,rfl⟩|⟨h,_⟩|⟨e',h,_⟩|⟨h,_⟩<;>rw[q3]at h<;>simp_all
     cases op<;>cases k<;>simp only[KH,jG,ji,reduceCtorEq]at h3<;>(obtain⟨rfl,rfl⟩:=h3)
     ·refine fin _ rfl rfl (pl _ _ _ ex ey (by simp) (by simp) ?_);exact(yq (P:=P) w (aa5 rfl) _ _).1
     ·refine fin _ rfl rfl (pl _ _ _ ex ey (by simp) (by simp) ?_);exact(yq (P:=P) w (aa5 rfl) _ _).2
    |_=>simp[KH]at h3
   |_=>simp[KH]at h3
 ·rename_i xs ys;obtain⟨ti,ht,h3⟩:=Rd.bind_some h3;have ht:=dW ht;obtain⟨h4,h3⟩:=cR h3;simp only[aL]at h4;obtain⟨⟨⟨⟨h5,h6⟩,h7⟩,h8⟩,h9⟩:=h4;have h7:=rQ h7;have h8:=rQ h8;replace h3:=zO h3;obtain⟨X,hX,sX,vX⟩:=ex;obtain⟨Y,hY,sY,vY⟩:=ey;have eX:=C2 h7 h9 sX vX;have eY:=C2 h8 h9 sY vY;cases hq:Xx xs ys with
  |none=>rw[hq]at h3;cases h3
  |some r=>
   rw[hq]at h3;obtain⟨r1,r2⟩:=hE.eq t ti h6 ht w x y xs ys r hq h7 h8;cases op<;>first|(simp[isEq]at h5;done)|skip
   ·obtain⟨_,rfl⟩:=bW (aJ h3);exact fin _ rfl rfl (by rw[hX,hY,eX,eY];exact r1)
   ·obtain⟨_,rfl⟩:=bW (aJ h3);exact fin _ rfl rfl (by rw[hX,hY,eX,eY];exact r2)
 ·simp at h3
theorem Uw(hE:eH P E)(cf:Ok E σ w c)(dK:fE E σ a w c)(hd:∀d,o.dst=ah d->d<a.tmps.size){op:BinOp}{t ty:aF}{x y:dy}(ho:o.op= .binOp op t x y ty)(h:(ml E nm o).val σ=ah e)(hc:e.cond=ai):gZ P E σ a w c o e.ws:=by simp only[ml,ho]at h;obtain⟨sx,h1,h⟩:=Rd.bind_some h;obtain⟨sy,h2,h⟩:=Rd.bind_some h;obtain⟨⟨b,v⟩,h3,h⟩:=Rd.bind_some h;obtain rfl:=aJ h;obtain⟨u,hu,hn,hr⟩:=Xk (P:=P) (x:=x) (y:=y) hE (mB dK h1).1 (mB dK h2).1 h3 hc;refine gJ cf dK hd (s:= .v ak [v]) hu (λn kM=>by simp[cO,hn]at kM) ?_;unfold execOp;rw[ho];exact ja hr
end
end Go.FG

namespace Go.FG
theorem Mf{p:Pl}(hn:p.nil=ak->p.n<=p.cap)(hz:p.nil=ai->p.n=0):w8 p 0 p.n (lW p):=by
 refine⟨bI _,cF _,λh=>nO h,λh=> ?_⟩
 rw[fa h];by_cases hc:p.cap=0
 ·refine .inr ⟨hc.symm,p.off,Nat.le_add_right _ _, ?_⟩;have:=hn h;rw[hc,show p.n=0 by omega]
 ·refine .inl ⟨by omega, ?_⟩;simp
theorem qY(xs:aR):eA xs 0 xs.length=xs:=by unfold eA;simp
def oz(w:bL)(v:bk)(xs:aR)(sz:aF)(R:aF->aF->bk->CV->Prop):Prop:=
 ∃A cp,v= .slice A xs.length cp/\(xs≠[]->∃b o,A=ah (ad b o)/\∀(i:aF) (y:az CV) (j:aF) (x:CV),xs[i]? =ah y->y[j]? =ah x->∃u:bk,w.cell? (ad b (o+i*sz+j))=ah u/\R i j u x)
theorem oz.imp{w:bL}{v:bk}{xs:aR}{sz:aF}{R R':aF->aF->bk->CV->Prop}(h:oz w v xs sz R)(hR:∀(i:aF) (y:az CV) (j:aF) (x:CV) (u:bk),xs[i]? =ah y->y[j]? =ah x->R i j u x->R' i j u x):oz w v xs sz R':=by
 obtain⟨A,cp,h1,h2⟩:=h;refine⟨A,cp,h1,λiB=> ?_⟩
 obtain⟨b,o,h3,h4⟩:=h2 iB;refine⟨b,o,h3,λi y j x hi hj=> ?_⟩
 obtain⟨u,hu,hr⟩:=h4 i y j x hi hj;exact⟨u,hu,hR i y j x u hi hj hr⟩
theorem L_{w:bL}{p:Pl}{xs:aR}{R:aF->aF->bk->CV->Prop}{lo hi:aF}{v:bk}(h:jl w p xs R)(hv:w8 p lo hi v):oz w v (eA xs lo hi) p.sz (λi j u x=>R (lo+i) j u x):=by
 obtain⟨v1,v2,v3,v4⟩:=hv;have hl:=mG (xs:=xs) (lo:=lo) (hi:=hi) (by rw[<-h.n];exact v2);cases hq:p.nil with
 |true=>
  have hx:=(h.nil hq).1;have h0:=h.n;rw[hx]at h0;refine⟨aj,0, ?_,λiB=>cJ (by rw[hx];unfold eA;simp) iB⟩
  rw[v3 hq,hl];have:p.n=0:=h0;congr 1;omega
 |false=>
  obtain⟨vals,hb,S0,XM,mM,hc⟩:=h.mem hq;rcases v4 hq with ⟨u1,rfl⟩|⟨u1,oo,u2,rfl⟩
  ·refine⟨_,_,by rw[hl],λiB=>⟨_,_,rfl,λi y j x mh hj=> ?_⟩⟩
   rw[uh]at mh;split at mh
   ·obtain⟨u,hu,hr⟩:=hc (lo+i) y j x mh hj;refine⟨u, ?_,hr⟩
    rw[hb.cell,<-hu];congr 1;rw[dp];omega
   ·cases mh
  ·have h0:hi-lo=0:=by omega
   refine⟨_,_,by rw[hl,h0],λiB=>cJ (gd (hl.trans h0)) iB⟩
theorem Jl{E:fQ}{w:bL}{K:aF->Prop}{p:Pl}{e:aF}{te:TI}{xs:aR}(he:E.ty e=ah te)(h:c_ E w K (lW p) (.l e xs))(hn:p.n=xs.length)(hs:p.sz=te.ks.length){lo hi:aF}{v:bk}(hv:w8 p lo hi v):c_ E w K v (.l e (eA xs lo hi)):=by
 obtain⟨v1,v2,v3,v4⟩:=hv;have hl:=mG (xs:=xs) (lo:=lo) (hi:=hi) (by rw[<-hn];exact v2);have nil:hi-lo=0->eA xs lo hi=[]:=λh0=>gd (hl.trans h0);cases hq:p.nil with
 |true=>
  rw[nO hq]at h;have hx:xs=[]:=by cases h;rfl
  subst hx;have hn:p.n=0:=hn;rw[v3 hq,nil (by omega)];exact .nl _ _ _
 |false=>
  rw[fa hq]at h;rcases v4 hq with ⟨u1,rfl⟩|⟨u1,oo,u2,rfl⟩
  ·have:=(Fc (lo:=lo) (hi:=hi) he h v1 (by rw[<-hn];exact v2)).2;rw[bH (by omega)]at this;simpa only[jh,Addr.oa,hs]using this
  ·by_cases hz:hi-lo=0
   ·rw[nil hz];exact .nl _ _ _
   ·have h1:0<xs.length:=by omega
    obtain⟨t3,U,L⟩:=h.Jw h1;have:=L.cap;omega
theorem zV{E:fQ}{w:bL}{K:aF->Prop}{v:bk}{e:aF}{te:TI}{xs:aR}(he:E.ty e=ah te)(h:c_ E w K v (.l e xs)):oz w v xs te.ks.length (λ_ _ u x=>c_ E w K u x)/\∀y∈xs,y.map CV.kd=te.ks:=by
 cases h with
 |nl=>exact⟨⟨_,_,rfl,λh=>cJ rfl h⟩,λy hy=>by cases hy⟩
 |l _ _ b o cp ti U ht hc hm hK hs hcell gg=>obtain rfl:te=ti:=aJ (he.symm.trans ht);exact⟨⟨_,_,rfl,λ_=>⟨b,o,rfl,λi y j x hi hj=>⟨U i j,hcell i j y x hi hj,gg i j y x hi hj⟩⟩⟩,hs⟩
theorem pD{E:fQ}{w:bL}{K:aF->Prop}{u:bk}{x:CV}(h:c_ E w K u x)(hl:uH x=ak):Sc u x:=by
 cases h with
 |i=>exact⟨rfl,trivial⟩
 |b=>exact⟨rfl,trivial⟩
 |s _ h=>exact⟨rfl,h⟩
 |nl=>simp[uH]at hl
 |l=>simp[uH]at hl
theorem kT{E:fQ}{w:bL}{K:aF->Prop}{u:bk}{x:CV}(hl:uH x=ak)(h:Sc u x):c_ E w K u x:=by
 obtain⟨h1,h2⟩:=h;subst h1;cases x with
 |i k n=>exact .i k n
 |b x=>exact .b x
 |s x=>exact .s x h2
 |l=>simp[uH]at hl
theorem uS{E:fQ}{w:bL}{G:aF->aF->Pl}{i j:aF}{u:bk}{x:CV}(h:XC E w G i j u x)(hl:uH x=ak):Sc u x:=by
 cases x with
 |l=>simp[uH]at hl
 |i=>exact h
 |b=>exact h
 |s=>exact h
theorem uQ{E:fQ}{w:bL}{G:aF->aF->Pl}{i j:aF}{u:bk}{x:CV}(hl:uH x=ak)(h:Sc u x):XC E w G i j u x:=by
 cases x with
 |l=>simp[uH]at hl
 |i=>exact h
 |b=>exact h
 |s=>exact h
theorem oz.list{w:bL}{v:bk}{xs:aR}{sz:aF}{R:aF->aF->bk->CV->Prop}(h:oz w v xs sz R)(hs:∀y∈xs,y.length=sz):
  ∃(A:aC Addr) (cp:aF) (news:az bk),v= .slice A xs.length cp/\news.length=xs.length*sz/\(xs=[]\/∃b o,A=ah (ad b o)/\∀j u,news[j]? =ah u->w.cell? (ad b (o+j))=ah u)/\
   ∀(i:aF) (y:az CV) (j:aF) (x:CV),xs[i]? =ah y->y[j]? =ah x->∃u:bk,news[i*sz+j]? =ah u/\R i j u x:=by
 obtain⟨A,cp,rfl,h2⟩:=h;by_cases hx:xs=[]
 ·subst hx;exact⟨A,cp,[],rfl,by simp, .inl rfl,λi y j x hi hj=>by simp at hi⟩
 ·obtain⟨b,o,h3,h4⟩:=h2 hx;have ex:∀q,q<xs.length*sz->∃u,w.cell? (ad b (o+q))=ah u:=by
   intro q hq;have gh:0<sz:=by rcases Dw sz with h|h;(subst h;simp at hq);exact h
   have hi:q/sz<xs.length:=by rw[yK gh];exact hq
   have hj:q%sz<xs[q/sz].length:=by rw[hs _ (bC hi)];exact Dx _ gh
   obtain⟨u,hu,_⟩:=h4 (q/sz) xs[q/sz] (q%sz) (xs[q/sz][q%sz]) (by simp[hi]) (by simp[hj]);refine⟨u, ?_⟩
   rw[<-hu];congr 2;have:=J_ q sz;rw[EA]at this;omega
  refine⟨A,cp,(b9 (xs.length*sz)).map (λq=>(w.cell? (ad b (o+q))).getD undef),rfl,by simp, .inr ⟨b,o,h3,λj u hj=> ?_⟩,λi y j x hi hj=> ?_⟩
  ·rw[bK]at hj;by_cases j8:j<xs.length*sz
   ·obtain⟨u',sD⟩:=ex j j8;simp only[j8,vP,jh,sD,yY,jG]at hj;rw[sD,hj]
   ·rw[k_ (l:=b9 (xs.length*sz)) (by simpa using j8)]at hj;cases hj
  ·obtain⟨u,hu,hr⟩:=h4 i y j x hi hj;refine⟨u, ?_,hr⟩
   have hil:=(aT.1 hi).1;have j8:=(aT.1 hj).1;rw[hs y (aQ hi)]at j8;have jD:i*sz+j<xs.length*sz:=by have:(i+1)*sz<=xs.length*sz:=b8 _ hil;rw[dp]at this;omega
   rw[bK,vP jD,jh];rw[show o+(i*sz+j)=o+i*sz+j by omega,hu];rfl
section
variable {P:c5} {E:fQ} {σ:St} {a:Act} {w:bL} {c:e9} {o:fC} {nm:aF} {e:s8}
theorem x_(cf:Ok E σ w c){nm e:aF}{ex:aX}{xs:aR}(h:σ (c8 nm)= .o (.row e ex xs)){lo hi:aF}{v:bk}(hv:w8 (c.P nm) lo hi v):
  ∃te,E.ty e=ah te/\(∀y∈eA xs lo hi,y.map CV.kd=te.ks)/\oz w v (eA xs lo hi) te.ks.length (λi j u x=>if ex=ai then XC E w (c.G nm) (lo+i) j u x else c_ E w c.K u x):=by obtain⟨⟨ti,h1,h2,h3⟩,h4,_⟩:=cf.obj nm _ h;have:=L_ h4 hv;rw[h2]at this;exact⟨ti,h1,λy hy=>h3 y (CJ hy),this⟩
theorem wu(cf:Ok E σ w c){nm e:aF}{ex:aX}{xs:aR}(h:σ (c8 nm)= .o (.row e ex xs)):w8 (c.P nm) 0 xs.length (lW (c.P nm)):=by obtain⟨h1,h2,ti,h3,h4,h5⟩:=ly cf h;rw[<-h1];exact Mf (λhn=>(h5 hn).1) (λhn=>by rw[h1,h2 hn];rfl)
theorem I_(cf:Ok E σ w c){nm e:aF}{xs:aR}(h:σ (c8 nm)= .o (.fT e xs)):w8 (c.P nm) 0 xs.length (lW (c.P nm)):=by
 obtain⟨h1,h2,ti,h3,h4⟩:=na cf h;rw[<-h1];refine Mf (λhn=> ?_) (λhn=>by rw[h1,h2 hn];rfl);obtain⟨j1,j2,_⟩:=cf.obj nm _ h;rw[fa hn]at j1;by_cases hz:0<xs.length
 ·obtain⟨t3,U,L⟩:=j1.Jw hz;rw[j2];exact L.cap
 ·omega
theorem pC(cf:Ok E σ w c){nm e:aF}{xs:aR}(h:σ (c8 nm)= .o (.fT e xs)){lo hi:aF}{v:bk}(hv:w8 (c.P nm) lo hi v):c_ E w c.K v (.l e (eA xs lo hi)):=by obtain⟨h1,h2,ti,h3,h4⟩:=cf.obj nm _ h;exact Jl h3 h1 h2 h4 hv
theorem BA(cf:Ok E σ w c){nm e e2 i j:aF}{xs:aR}{te:TI}(h:σ (c8 nm)= .o (.row e ai xs))(ht:E.ty e=ah te)(hk:te.ks[j]? =ah (.l e2))(hi:i<(c.P nm).n):
  ∃ys y t2,xs[i]? =ah y/\y[j]? =ah (.l e2 ys)/\E.ty e2=ah t2/\plain t2.ks=ai/\(c.G nm i j).sz=t2.ks.length/\(∀y∈ys,y.map CV.kd=t2.ks)/\jl w (c.G nm i j) ys (λ_ _ u x=>Sc u x)/\w8 (c.G nm i j) 0 ys.length (lW (c.G nm i j)):=by
 obtain⟨⟨tj,htj,gh,mR⟩,gf,_⟩:=cf.obj nm _ h;obtain rfl:te=tj:=aJ (ht.symm.trans htj);obtain⟨zs,y,hy,hyj,uu,_,tk,Hg,s5,Lj,D8,oV⟩:=uP (c:=c) gf mR hi hk;refine⟨zs,y,tk,hy,hyj,Hg,s5,Lj,D8,oV, ?_⟩
 have:=Mf (p:=c.G nm i j) (λhn=>by obtain⟨_,_,q,_⟩:=oV.mem hn;exact q) (λhn=>by rw[oV.n,(oV.nil hn).1];rfl);rwa[oV.n]at this
theorem PA{E:fQ}{w:bL}{K:aF->Prop}{v:bk}{e:aF}{xs:aR}(h:c_ E w K v (.l e xs)):xs.length<=maxLen:=by
 cases h with
 |nl=>exact bI _
 |l _ _ b o cp ti U ht hc hm=>exact dh hc hm
theorem uO{w:bL}{p:Pl}{xs:aR}{R:aF->aF->bk->CV->Prop}(h:jl w p xs R):xs.length<=maxLen:=by
 cases hn:p.nil with
 |true=>rw[(h.nil hn).1];exact bI _
 |false=>obtain⟨vals,_,h2,h3,_⟩:=h.mem hn;rw[<-h.n];exact dh h2 h3
theorem J7(xs:aR)(lo hi:aF):(eA xs lo hi).length<=xs.length:=by unfold eA;simp;omega
theorem Ay(cf:Ok E σ w c){x:AV}{v:bk}(hx:eM E w c x v){el:aF}{xs:aR}{te:TI}(h:(mJ E x).val σ=ah (el,xs))(ht:E.ty el=ah te)(hp:plain te.ks=ai):
  oz w v xs te.ks.length (λ_ _ u x=>Sc u x)/\(∀y∈xs,y.map CV.kd=te.ks)/\xs.length<=maxLen:=by
 have ofH:∀{xs:aR} {v:bk},c_ E w c.K v (.l el xs)->oz w v xs te.ks.length (λ_ _ u x=>Sc u x)/\(∀y∈xs,y.map CV.kd=te.ks)/\xs.length<=maxLen:=by intro xs v hh;obtain⟨h1,h2⟩:=zV ht hh;exact⟨h1.imp λi y j x u hi hj hr=>pD hr (iw hp (h2 y (aQ hi)) hj),h2,PA hh⟩
 have ofR:∀{nm:aF} {ex:aX} {xs:aR} {lo hi:aF} {v:bk},σ (c8 nm)= .o (.row el ex xs)->w8 (c.P nm) lo hi v->oz w v (eA xs lo hi) te.ks.length (λ_ _ u x=>Sc u x)/\(∀y∈eA xs lo hi,y.map CV.kd=te.ks)/\(eA xs lo hi).length<=maxLen:=by
  intro nm ex xs lo hi v hg hv;obtain⟨t2,q1,q2,q3⟩:=x_ cf hg hv;obtain rfl:te=t2:=aJ (ht.symm.trans q1);refine⟨q3.imp λi y j x u hi hj hr=> ?_,q2,dh (J7 _ _ _) (uO (cf.obj nm _ hg).at_)⟩
  have hl:=iw hp (q2 y (aQ hi)) hj;split at hr
  ·exact uS hr hl
  ·exact pD hr hl
 cases x with
 |sh e' ys=>obtain⟨rfl,rfl⟩:=bW (aJ h);exact ofH hx
 |own n=>
  obtain⟨ob,hg,h⟩:=Rd.bind_some h;have hg:=dz hg;have hx:v=lW (c.P n):=hx;subst hx;cases ob with
  |row e' ex ys=>obtain⟨rfl,rfl⟩:=bW (aJ h);have:=ofR hg (wu cf hg);rwa[qY]at this
  |fT e' ys=>obtain⟨rfl,rfl⟩:=bW (aJ h);have:=ofH (pC cf hg (I_ cf hg));rwa[qY]at this
  |_=>simp at h
 |vw n lo hi=>
  obtain⟨ob,hg,h⟩:=Rd.bind_some h;have hg:=dz hg;cases ob with
  |row e' ex ys=>obtain⟨rfl,rfl⟩:=bW (aJ h);exact ofR hg hx
  |fT e' ys=>obtain⟨rfl,rfl⟩:=bW (aJ h);exact ofH (pC cf hg hx)
  |_=>simp at h
 |inn n i j=>
  obtain⟨ob,hg,h⟩:=Rd.bind_some h;have hg:=dz hg;cases ob with
  |row e' ex ys=>
   cases ex with
   |false=>simp at h
   |true=>
   obtain⟨t1,ht1,h⟩:=Rd.bind_some h;have ht1:=dW ht1;split at h
   ·rename_i e2 Ap;obtain⟨rfl,rfl⟩:=bW (aJ h);obtain⟨⟨mi,hx⟩,_⟩:=hx;obtain⟨zs,y,t2,q1,q2,q3,q4,q5,q6,q7,q8⟩:=BA cf hg ht1 Ap mi;obtain rfl:te=t2:=aJ (ht.symm.trans q3);rw[fG q1 q2];have:=L_ q7 q8;rw[qY,q5]at this;subst hx;exact⟨this,q6,uO q7⟩
   ·simp at h
  |_=>simp at h
 |_=>simp[mJ]at h
end
end Go.FG

namespace Go.FG
def fZ(E:fQ)(w:bL)(c:e9)(vals:du bk)(xs:az AV):Prop:=
 vals.size=xs.length/\∀(j:aF) (a:AV),xs[j]? =ah a->∃u:bk,vals[j]? =ah u/\eM E w c a u
theorem qq.cells{E:fQ}{w:bL}{c:e9}{agg:aX}{xs:az AV}{v:bk}(h:qq E w c agg xs v):fZ E w c v.cells xs:=by
 unfold qq at h;split at h
 ·rename_i a;rw[EU h.one];refine⟨rfl,λj a' hj=> ?_⟩
  cases j with
  |zero=>simp at hj;subst hj;exact⟨v,rfl,h⟩
  |succ=>simp at hj
 ·obtain⟨vals,rfl,hs,hv⟩:=h;exact⟨hs,hv⟩
 ·exact h.elim
theorem fZ.one{E:fQ}{w:bL}{c:e9}{xs:az AV}{vals:du bk}(h:fZ E w c vals xs):∀u∈vals.toList,u.oneCell'=true:=by
 intro u hu;obtain⟨j,hj⟩:=bY hu;have jD:j<xs.length:=by rw[<-h.1];have:=(aT.1 hj).1;simpa using this
 obtain⟨u',h1,h2⟩:=h.2 j xs[j] (by simp[jD]);rw[cY,h1]at hj;cases hj;exact h2.one
theorem vD{α:Type}{xs ys:az α}{j:aF}(h:j+ys.length<=xs.length):(iH xs j ys).length=xs.length:=by unfold iH;simp;omega
theorem pG{α:Type}{xs ys:az α}{j:aF}(h:j+ys.length<=xs.length)(k:aF):(iH xs j ys)[k]? =if j<=k/\k<j+ys.length then ys[k-j]? else xs[k]? :=by
 unfold iH;by_cases h1:k<j
 ·rw[bH (by omega),cz,dH (by simp;omega),d_,bz h1]
 ·by_cases h2:k<j+ys.length
  ·rw[bz ⟨by omega,h2⟩,cz,da (by simp;omega),dH (by simp;omega)];congr 1;simp;omega
  ·rw[bH (by omega),cz,da (by simp;omega),da (by simp;omega),dQ];congr 1;simp;omega
theorem CI{α:Type}{xs ys:az α}{j:aF}{x:α}(h:x∈iH xs j ys):x∈xs\/x∈ys:=by
 unfold iH at h;simp only[ba]at h;rcases h with (h|h)|h
 ·exact .inl (ld h)
 ·exact .inr h
 ·exact .inl (la h)
theorem fZ.put{E:fQ}{w:bL}{c:e9}{xs ys:az AV}{vals vs:du bk}(h:fZ E w c vals xs)(h':fZ E w c vs ys){j:aF}(hl:j+ys.length<=xs.length):fZ E w c (eh vals j vs.toList) (iH xs j ys):=by
 have hb:j+vs.toList.length<=vals.size:=by rw[h.1,dR,h'.1];exact hl
 refine⟨by rw[fg hb,vD hl];exact h.1,λk a hk=> ?_⟩
 rw[pG hl]at hk;rw[gp hb,dR,h'.1];split at hk
 ·rename_i hc;rw[bz hc,cY];exact h'.2 _ a hk
 ·rename_i hc;rw[bH hc];exact h.2 k a hk
theorem SM(off:aF):∀(l:az bk) (k:aF) (cells:du bk),off+k+l.length<=cells.size->
  ((l.zipIdx k).foldl (λr p=>r.setIfInBounds (off+p.2) p.1) cells).size=cells.size/\
  ∀q:aF,((l.zipIdx k).foldl (λr p=>r.setIfInBounds (off+p.2) p.1) cells)[q]? =if off+k<=q/\q<off+k+l.length then l[q-(off+k)]? else cells[q]? :=by
 intro l;induction l with
 |nil=>intro k cells _;refine⟨rfl,λq=> ?_⟩;rw[bH (by simp)];rfl
 |cons v rest ih=>
  intro k cells hl;simp only[db]at hl;obtain⟨h1,h2⟩:=ih (k+1) (cells.setIfInBounds (off+k) v) (by simp;omega);simp only[List.zipIdx_cons,DI];refine⟨by rw[h1];simp,λq=> ?_⟩
  rw[h2 q];by_cases hq:q=off+k
  ·subst hq;rw[bH (by omega),bz ⟨by omega,by simp⟩,ov,bz rfl,bz (by omega)];simp
  ·by_cases hr:off+(k+1)<=q/\q<off+(k+1)+rest.length
   ·rw[bz hr,bz ⟨by omega,by simp;omega⟩];rw[show q-(off+k)=(q-(off+(k+1)))+1 by omega,dO]
   ·rw[bH hr,bH (by simp;omega),ov,bH (λh=>hq h.symm)]
theorem E2{off:aF}{vs cells:du bk}(h:off+vs.size<=cells.size):(vs.zipIdx.foldl (λr (p:bk×aF)=>r.setIfInBounds (off+p.2) p.1) cells)=eh cells off vs.toList:=by
 rw[<-Array.foldl_toList,Array.toList_zipIdx];obtain⟨h1,h2⟩:=SM off vs.toList 0 cells (by simpa using h);have hb:off+vs.toList.length<=cells.size:=by simpa using h
 apply Array.ext_getElem?;intro q;rw[h2 q,gp hb];simp
theorem Qp{E:fQ}{w:bL}{c:e9}{k:Ck}(h:(match k with| .o=>ak|_=>ai)=ai):eM E w c (Ds k) (iN k):=by cases k<;>first|rfl|exact⟨rfl,bI _⟩|simp at h
theorem CL(k:Ck):bS (Ds k)=[]:=by cases k<;>rfl
theorem J9{E:fQ}{w:bL}{c:e9}{ks:az Ck}(h:LB ks=ai):fZ E w c (ks.map iN).toArray (ks.map Ds):=by
 refine⟨by simp,λj a hj=> ?_⟩
 rw[bK]at hj;cases hk:ks[j]? with
 |none=>rw[hk]at hj;cases hj
 |some k=>rw[hk]at hj;cases hj;exact⟨iN k,by simp[hk],Qp (bu.1 h k (aQ hk))⟩
section
variable {P:c5} {E:fQ} {σ:St} {a:Act} {w:bL} {c:e9} {o:fC} {nm:aF} {e:s8}
theorem P4(hE:eH P E)(dK:fE E σ a w c){t:aF}{pl:az (aF×aF)}{size:aF}(s5:∀f o n,E.fo t f=ah (o,n)->pl[f]? =ah (o,n)/\o+n<=size):∀(ps:az (aF×dy)) (l:az (aF×az AV)),(Hy E t ps).val σ=ah l->
  ∀(vals:du bk) (xs:az AV),fZ E w c vals xs->xs.length=size->(∀a∈xs,jj σ a)->
  ∃je,pK (λi=>pl[i]?) vals (ps.map λ(i,x)=>(i,a.eval x))=ah je/\fZ E w c je (Nq xs l)/\(∀a∈Nq xs l,jj σ a):=by
 intro ps;induction ps with
 |nil=>intro l h vals xs hv _ hk;obtain rfl:=aJ h;exact⟨vals,rfl,hv,hk⟩
 |cons p r ih=>
  obtain⟨f,x⟩:=p;intro l h vals xs hv gh hk;obtain⟨v,h1,h⟩:=Rd.bind_some h;obtain⟨PC,hkv⟩:=mB dK h1;cases v with
  |v g ys=>
   replace h:(match E.fo t f with|some (o,n)=>bif bD ys.length n then(Hy E t r).bind λl=> .ret ((o,ys)::l)else .fail|none=> .fail:Rd (az (aF×az AV))).val σ=ah l:=h;cases hf:E.fo t f with
   |none=>rw[hf]at h;simp at h
   |some q=>
    obtain⟨off,n⟩:=q;rw[hf]at h;obtain⟨hn,h⟩:=cR h;have hn:=aU hn;obtain⟨l',hl',h⟩:=Rd.bind_some h;obtain rfl:=aJ h;obtain⟨PD,hp2⟩:=s5 f off n hf;have hc:=qq.cells PC;have mM:off+ys.length<=xs.length:=by omega
    obtain⟨je,q1,q2,q3⟩:=ih l' hl' (eh vals off (a.eval x).cells.toList) (iH xs off ys) (hv.put hc mM) (by rw[vD mM];exact gh)
     (λb hb=>by
      rcases CI hb with hb|hb
      ·exact hk b hb
      ·exact λn hn=>hkv n (bQ.2 ⟨b,hb,hn⟩))
    refine⟨je, ?_,q2,q3⟩
    simp only[fD,pK,PD];have c1:(a.eval x).cells.size=n:=by rw[hc.1,hn]
    have c2:¬(off+(a.eval x).cells.size>vals.size):=by rw[hc.1,hv.1];omega
    rw[bH (by simp[c1];rw[c1]at c2;omega)];have:=E2 (off:=off) (vs:=(a.eval x).cells) (cells:=vals) (by omega);rw[<-q1];exact lO (λz=>pK (λi=>pl[i]?) z _) this
  |kl=>simp at h
  |un=>simp at h
theorem Ux(hE:eH P E)(cf:Ok E σ w c)(dK:fE E σ a w c)(hd:∀d,o.dst=ah d->d<a.tmps.size){t:aF}{ps:du (aF×dy)}(ho:o.op= .build t ps)(h:(ml E nm o).val σ=ah e):gZ P E σ a w c o e.ws:=by simp only[ml,ho]at h;obtain⟨ti,h1,h⟩:=Rd.bind_some h;obtain⟨hb,h⟩:=cR h;obtain⟨l,h2,h⟩:=Rd.bind_some h;have ht:=dW h1;simp only[aL]at hb;obtain⟨zF,uG⟩:=hb;obtain⟨inf,hi,gh,_,_,hz⟩:=hE.info t ti ht;obtain⟨z,Kd,Ea,_⟩:=hz zF;obtain⟨d,hd',ha,_⟩:=hE.desc t ti ht;obtain⟨fs,rfl,Lc⟩:=ha uG;obtain⟨pl,PD,hp2⟩:=hE.pl t ti ht uG fs hd';obtain⟨vals,q1,q2,q3⟩:=P4 (size:=ti.ks.length) hE dK (λf o n hf=>⟨hp2 f o n hf,(Lc f o n hf).choose_spec.2.2.2.2⟩) ps.toList l h2 _ _ (J9 (w:=w) (c:=c) (E:=E) zF) (by simp) (λb hb=>by obtain⟨k,_,rfl⟩:=cW.1 hb;exact uI (CL k));refine fX cf dK hd h (v:= .agg vals) ⟨vals,rfl,q2.1,q2.2⟩ (λn hn=>by obtain⟨x,hx,hn⟩:=bQ.1 hn;exact q3 x hx n hn) ?_;unfold execOp;rw[ho];refine ja (run_build w t _ vals ?_);simp only[Program.built,hi,hd',Kd,PD,Ea,ik,AD];exact q1
theorem Uz(hE:eH P E)(cf:Ok E σ w c)(dK:fE E σ a w c)(hd:∀d,o.dst=ah d->d<a.tmps.size){t f:aF}{x:dy}(ho:o.op= .field t x f)(h:(ml E nm o).val σ=ah e):gZ P E σ a w c o e.ws:=by
 simp only[ml,ho]at h;obtain⟨v,h1,h⟩:=Rd.bind_some h;obtain⟨hv,hk⟩:=mB dK h1;cases v with
 |v g xs=>
  cases g with
  |true=>
   cases hf:E.fo t f with
   |none=>rw[hf]at h;simp at h
   |some r=>
    obtain⟨j,n⟩:=r;rw[hf]at h;obtain⟨hb,h⟩:=cR h;rw[aL]at hb;cases hx:xs.drop j with
    |nil=>rw[hx]at h;simp at h
    |cons y ys=>
     rw[hx]at h;have hj:xs[j]? =ah y:=by have:=dQ (xs:=xs) (i:=j) (j:=0);rw[hx]at this;simpa using this.symm
     obtain⟨vals,q1,q2,q3⟩:∃vals:du bk,a.eval x= .agg vals/\vals.size=xs.length/\∀(j:aF) (b:AV),xs[j]? =ah b->∃u:bk,vals[j]? =ah u/\eM E w c b u:=hv;obtain⟨u,hu,Wu⟩:=q3 j y hj;obtain⟨ti,ht,uG⟩:=hE.fo t f j n hf;obtain⟨d,hd',ha,_⟩:=hE.desc t ti ht;obtain⟨fs,rfl,Lc⟩:=ha uG;obtain⟨fd,g1,g2,_⟩:=Lc f j n hf;have hAg:=hE.fl t f hb.1 fs fd hd' g1 w;refine fX cf dK hd h (s:= .v ak [y]) (v:=u) Wu (λm hm=>hk m (bQ.2 ⟨y,aQ hj,by simpa [cO]using hm⟩)) ?_;unfold execOp;rw[ho];refine ja ?_;simp only[Instr.field,cj,run_underlying hd',bG,g1,q1,asAgg,cT,part,hAg,dx,if_false,g2,hu]
  |false=>simp at h
 |kl=>simp at h
 |un=>simp at h
theorem Uv(hE:eH P E)(cf:Ok E σ w c)(dK:fE E σ a w c)(hd:∀d,o.dst=ah d->d<a.tmps.size){t:aF}(ho:o.op= .alloc t)(h:(ml E nm o).val σ=ah e):gZ P E σ a w c o e.ws:=by
 simp only[ml,ho]at h;obtain⟨ti,h1,h⟩:=Rd.bind_some h;obtain⟨hb,h⟩:=cR h;obtain⟨u,h2,h⟩:=Rd.bind_some h;obtain⟨hf,jD⟩:=kL h2;obtain rfl:=aJ h;have hr:=Qb (P:=P) w hE (dW h1) hb;refine Cx cf dK hd (p:=⟨ak,w.heap.size,0,0,0,0⟩) (g:=λ_ _=>⟨ak,0,0,0,0,0⟩) hf jD (λc' hP _ _ _=> ?_) (λc' hP _ b hb=> ?_) (λxs hx b hb=> ?_) (λc' hP _=> ?_) (λn hn=> .inl (by simpa [cO,bS]using hn)) (λb hb=>heap_alloc_old w _ b hb) (by simp) rfl rfl rfl (v:= .pointer (ah (ad w.heap.size 0))) (w':=w.alloc (.cells (ti.ks.map iN).toArray t)) ?_
 ·obtain⟨z1,z2⟩:=J9 (E:=E) (w:=w.alloc (.cells (ti.ks.map iN).toArray t)) (c:=c') hb;exact⟨_,by rw[hP];exact n8.alloc w _ t,z1,z2⟩
 ·have:b=(c'.P nm).blk:=hb;rw[this,hP];exact cF _
 ·cases hx;obtain⟨k,_,rfl⟩:=cW.1 hb;exact uI (CL k)
 ·show _=_;rw[hP]
 ·unfold execOp;rw[ho];exact ja hr
theorem agn(cf:Ok E σ w c)(dK:fE E σ a w c)(hd:∀d,o.dst=ah d->d<a.tmps.size){t:aF}{x:dy}(ho:o.op= .box t x)(h:(ml E nm o).val σ=ah e):gZ P E σ a w c o e.ws:=by
 simp only[ml,ho]at h;obtain⟨v,h1,h⟩:=Rd.bind_some h;obtain⟨hv,hk⟩:=mB dK h1;cases v with
 |v g xs=>
  obtain⟨u,h2,h⟩:=Rd.bind_some h;obtain⟨hf,jD⟩:=kL h2;obtain rfl:=aJ h;have hr:=U6 (P:=P) w t (a.eval x);have kx:∀b∈xs,jj σ b:=λb hb n hn=>hk n (bQ.2 ⟨b,hb,hn⟩);have oe:=qq.cells hv;refine Cx cf dK hd (p:=⟨ak,w.heap.size,0,0,0,0⟩) (g:=λ_ _=>⟨ak,0,0,0,0,0⟩) hf jD (λc' hP _ hK hA=> ?_) (λc' hP _ b hb=> ?_) (λys hx b hb=> ?_) (λc' hP _=> ?_) (λn hn=> .inl (by simpa [cO,bS]using hn)) (λb hb=>heap_alloc_old w _ b hb) (by simp) rfl rfl rfl (v:= .pointer (ah (ad w.heap.size 0))) (w':=w.alloc (.cells (a.eval x).cells t)) ?_
  ·refine⟨_,by rw[hP];exact n8.alloc w _ t,oe.1,λj y hj=> ?_⟩
   obtain⟨u,hu,hy⟩:=oe.2 j y hj;exact⟨u,hu,hy.frame (λb hb=>heap_alloc_old w _ b (cf.lt b hb)) hK (λn hn=>hA n (.inl (kx y (aQ hj) n hn)))⟩
  ·have:b=(c'.P nm).blk:=hb;rw[this,hP];exact cF _
  ·cases hx;exact kx b hb
  ·show _=_;rw[hP]
  ·unfold execOp;rw[ho];exact ja hr
 |kl=>simp at h
 |un=>simp at h
end
end Go.FG

namespace Go.FG
def Ly(E:fQ)(ks:az Ck)(_i j:aF):Pl:=
 ⟨ai,0,0,0,0,match ks[j]? with|some (.l e)=>(match E.ty e with|some t=>t.ks.length|none=>0)|_=>0⟩
theorem wh{p:Pl}{G:aF->aF->Pl}{xs:aR}(h:∀i j,(G i j).nil=ai):FY p G xs:=
 ⟨λi j _ hn=>(by rw[h]at hn;cases hn),λi j i' j' _ _ hn=>(by rw[h]at hn;cases hn)⟩
theorem OJ{E:fQ}{w:bL}{ks:az Ck}(hf:flat E ks=ai)(hn:LB ks=ai){i j:aF}{k:Ck}(hk:ks[j]? =ah k):XC E w (Ly E ks) i j (iN k) (z7 k):=by
 have h1:=bu.1 hf k (aQ hk);have h2:=bu.1 hn k (aQ hk);cases k with
 |l e=>
  replace h1:(match E.ty e with|some ti=>plain ti.ks|none=>ak)=true:=h1;cases ht:E.ty e with
  |none=>rw[ht]at h1;cases h1
  |some t=>
   rw[ht]at h1;refine⟨rfl,t,ht,h1, ?_,λy hy=>(by cases hy),⟨rfl,λ_=>⟨rfl,rfl⟩,λh=>by cases h⟩⟩
   show(match ks[j]? with|some (.l e)=>(match E.ty e with|some t=>t.ks.length|none=>0)|_=>0)=_;rw[hk];simp only[ht]
 |o=>cases h2
 |s=>exact⟨rfl,bI _⟩
 |_=>exact⟨rfl,trivial⟩
theorem Mk{E:fQ}{w:bL}{K:aF->Prop}{k:Ck}(h2:(match k with| .o=>ak|_=>ai)=ai):c_ E w K (iN k) (z7 k):=by
 cases k with
 |o=>cases h2
 |i k=>exact .i _ _
 |b=>exact .b _
 |s=>exact .s _ (bI _)
 |l e=>exact .nl _ _ _
theorem aaf{k:Ck}(h2:(match k with| .o=>ak|_=>ai)=ai):(z7 k).kd=k:=by cases k<;>first|rfl|cases h2
theorem yI{ks:az Ck}(hn:LB ks=ai)(n:aF):∀y∈aP ks n,y.map CV.kd=ks:=by
 intro y hy;rw[(List.mem_replicate.1 hy).2,mv];have:∀k∈ks,(CV.kd∘z7) k=k:=λk hk=>aaf (bu.1 hn k hk);conv=>rhs;rw[<-List.map_id ks]
 exact Qt this
theorem uT{ks:az Ck}{n i j:aF}{y:az CV}{x:CV}(hi:(aP ks n)[i]? =ah y)(hj:y[j]? =ah x):i<n/\∃k,ks[j]? =ah k/\x=z7 k:=by
 unfold aP at hi;have jD:=(aT.1 hi).1;rw[List.length_replicate]at jD;rw[List.getElem?_replicate,bz jD]at hi;cases hi;rw[bK]at hj;cases hk:ks[j]? with
 |none=>rw[hk]at hj;cases hj
 |some k=>rw[hk]at hj;cases hj;exact⟨jD,k,rfl,rfl⟩
theorem lX{ks:az Ck}{n i j:aF}{k:Ck}(hi:i<n)(hk:ks[j]? =ah k):(madeCells (ks.map iN).toArray (n*ks.length))[i*ks.length+j]? =ah (iN k):=by
 have hj:=(aT.1 hk).1;have jD:i*ks.length+j<n*ks.length:=by have:(i+1)*ks.length<=n*ks.length:=b8 _ hi;rw[dp]at this;omega
 have hm:(i*ks.length+j)%ks.length=j:=by rw[EA,Nat.mul_add_mod];exact Nat.mod_eq_of_lt hj
 unfold madeCells;rw[OM,Array.getElem?_range,bz jD,jh];congr 1;simp only[Wl,bU,hm];rw[getElem!_def,ik,bK,hk];rfl
theorem zI{P:c5}{E:fQ}{σ:St}(hE:eH P E){t:aF}{k:nA}(h:(p8 E t).val σ=ah (.i k)):P.underlying t=ah (.int k):=by obtain⟨ti,h1,h2,h3⟩:=rT h;obtain⟨d,hd,_,hn⟩:=hE.desc t ti h1;rcases hn h2 with ⟨k,h,rfl⟩|⟨h,_⟩|⟨h,_⟩|⟨e',h,_⟩|⟨h,_⟩<;>rw[h3]at h<;>simp_all
theorem Nd{P:c5}{E:fQ}(hE:eH P E){e:aF}{te:TI}(ht:E.ty e=ah te)(h:(u8s te.ks&& !te.agg)=ai):te.ks=[.i .u8]/\P.underlying e=ah (.int .u8):=by
 simp only[aL,dr]at h;have hk:te.ks=[.i .u8]:=by
  have:=h.1;unfold u8s at this;split at this
  ·assumption
  ·cases this
 obtain⟨d,hd,_,hn⟩:=hE.desc e te ht;refine⟨hk, ?_⟩
 rcases hn h.2 with ⟨k,h,rfl⟩|⟨h,_⟩|⟨h,_⟩|⟨e',h,_⟩|⟨h,_⟩<;>rw[hk]at h<;>simp_all
section
variable {P:c5} {E:fQ} {σ:St} {a:Act} {w:bL} {c:e9} {o:fC} {nm:aF} {e:s8}
theorem Qc(hE:eH P E){src dst el:aF}{te:TI}(hs:P.underlying src=ah (.slice el))(hd:P.underlying dst=ah .string)(he:P.underlying el=ah (.int .u8))(hk:te.ks=[.i .u8]){v:bk}{xs:aR}
  (h:oz w v xs te.ks.length (λ_ _ u x=>Sc u x)) (mR:∀y∈xs,y.map CV.kd=te.ks):(convert src dst v).run P w= .ok (.string (bytesOf xs)) w:=by
 obtain⟨A,cp,rfl,h2⟩:=h;by_cases hx:xs=[]
 ·subst hx;rw[jT];have e0:bytesOf []=HV:=rfl;rw[e0];cases A with
  |none=>exact run_convert_bytes_nil w src el hs he 0 cp dst hd
  |some ad'=>rw[run_convert_bytes_string w src dst el _ 0 cp hs he hd];exact run_bytesToString w ad' 0 cp [] rfl
 ·obtain⟨b,oo,rfl,h3⟩:=h2 hx;have:=run_convert_bytes_arg w src el hs he b oo xs.length cp (xs.map λy=>bF (y.getD 0 (.b ak))) (by simp) (λi hi=>by
   have hy:=mR xs[i] (bC hi);rw[hk]at hy;cases hq:xs[i]with
   |nil=>rw[hq]at hy;cases hy
   |cons x r=>
    rw[hq]at hy;simp only[fD,List.cons.injEq,List.map_eq_nil_iff]at hy;obtain⟨hx1,rfl⟩:=hy;obtain⟨u,hu,hr⟩:=h3 i xs[i] 0 x (by simp[hi]) (by rw[hq];rfl);rw[hk]at hu;simp only[db,jT,bV,Nat.mul_one,yX]at hu;rw[hu,hr.1];cases x with
    |i k n=>cases hx1;simp[Qg,jS,hi,hq,bF]
    |_=>cases hx1) dst hd
  rw[this];unfold strOfNums bytesOf;rw[mv];rfl
theorem iU(xs:aR):(bytesOf xs).size=xs.length:=by unfold bytesOf;simp[cm]
theorem mj(s:aq):(qU s).length=s.size:=by unfold qU;simp
theorem HD{s:aq}{i j:aF}{y:az CV}{x:CV}(hi:(qU s)[i]? =ah y)(hj:y[j]? =ah x):j=0/\∃b,s.data[i]? =ah b/\x= .i .u8 (b.toNat:aw):=by
 unfold qU at hi;rw[bK,cY]at hi;cases hb:s.data[i]? with
 |none=>rw[hb]at hi;cases hi
 |some b=>
  rw[hb]at hi;cases hi;cases j with
  |zero=>cases hj;exact⟨rfl,b,rfl,rfl⟩
  |succ j=>simp at hj
theorem JQ(s:aq):∀y∈qU s,y.map CV.kd=[.i .u8]:=by intro y hy;obtain⟨b,_,rfl⟩:=cW.1 hy;rfl
theorem LF(hE:eH P E)(cf:Ok E σ w c)(dK:fE E σ a w c)(hd:∀d,o.dst=ah d->d<a.tmps.size){src dst:aF}{x:dy}(ho:o.op= .convert src dst x)(h:(ml E nm o).val σ=ah e)(hc:e.cond=ai):gZ P E σ a w c o e.ws:=by
 simp only[ml,ho]at h;obtain⟨ks,h1,h⟩:=Rd.bind_some h;obtain⟨kd,h2,h⟩:=Rd.bind_some h;obtain⟨v,h3,h⟩:=Rd.bind_some h;obtain⟨ev,kv⟩:=jb dK h3;have exec:∀{u r:bk} {w':bL},a.eval x=u->(convert src dst u).run P w= .ok r w'->(execOp a.eval o).run P w= .ok (.value r) w':=by intro u r w' hu hr;unfold execOp;rw[ho];exact ja (by rw[hu];exact hr)
 cases kd with
 |i k=>
  cases ks with
  |i k0=>
   cases v with
   |i k1 n=>refine fX cf dK hd h (v:= .int k (k.wrap n)) rfl (λn hn=>by simp[cO,bS]at hn) (exec ev ?_);simp[convert,run_underlying (zI hE h1),run_underlying (zI hE h2),Conv.intToInt]
   |_=>simp at h
  |_=>simp at h
 |s=>
  have Cz:=lu hE h2;cases ks with
  |s=>
   cases v with
   |s s=>refine fX cf dK hd h (v:= .string s) ⟨rfl,ev.2⟩ (λn hn=>by simp[cO,bS]at hn) (exec ev.1 ?_);simp[convert,run_underlying (lu hE h1),run_underlying Cz]
   |_=>simp at h
  |l el=>
   have D9:=kP hE h1;have gen:(∀e,v=e->((mJ E e).bind λ(e,xs)=>(sW E e).bind λte=>bif bD e el&&u8s te.ks&& !te.agg then Mc o (decide (xs.length<=4611686018427387904)) (.s (bytesOf xs))else .fail).val σ=ah ‹s8›)->gZ P E σ a w c o (‹s8›).ws:=by
    intro h;obtain⟨⟨e1,xs⟩,q1,h⟩:=Rd.bind_some (h v rfl);obtain⟨te,q2,h⟩:=Rd.bind_some h;have q2:=dW q2;obtain⟨q3,h9⟩:=cR h;rw[nS,aL]at q3;have:=aU q3.1;subst this;obtain⟨q4,q5⟩:=Nd hE q2 q3.2;have hp:plain te.ks=true:=by rw[q4];rfl
    obtain⟨r1,r2,r3⟩:=Ay cf ev q1 q2 hp;exact FD cf dK hd h9 hc (v:= .string (bytesOf xs)) (λhb=>⟨rfl,by unfold Ec;rw[iU];exact cq hb⟩) (uI rfl) (λ_=>exec rfl (Qc hE D9 Cz q5 q4 r1 r2))
   cases v with
   |nl=>obtain⟨te,q1,h⟩:=Rd.bind_some h;obtain⟨q3,h⟩:=cR h;obtain⟨q4,q5⟩:=Nd hE (dW q1) q3;exact fX cf dK hd h (v:= .string HV) ⟨rfl,bI _⟩ (λn hn=>by simp[cO,bS]at hn) (exec ev (run_convert_bytes_nil w src el D9 q5 0 0 dst Cz))
   |_=>exact gen (λ_ hv=>by cases hv;exact h)
  |_=>simp at h
 |_=>simp at h
theorem Hv(hE:eH P E)(cf:Ok E σ w c)(dK:fE E σ a w c)(hd:∀d,o.dst=ah d->d<a.tmps.size){t:aF}{x y:dy}(ho:o.op= .makeSlice t x y)(h:(ml E nm o).val σ=ah e)(hc:e.cond=ai):gZ P E σ a w c o e.ws:=by
 simp only[ml,ho]at h;obtain⟨⟨k1,n⟩,h1,h⟩:=Rd.bind_some h;obtain⟨⟨k2,m⟩,h2,h⟩:=Rd.bind_some h;obtain⟨ti,h3,h⟩:=Rd.bind_some h;have ex:=p_ dK h1;have ey:=p_ dK h2;have h3:=dW h3;split at h
 ·rename_i el uG A_;obtain⟨te,h4,h⟩:=Rd.bind_some h;have h4:=dW h4;obtain⟨h5,h⟩:=cR h;obtain⟨u,h6,h⟩:=Rd.bind_some h;obtain⟨hf,jD⟩:=kL h6;obtain rfl:=aJ h;generalize (bif plain te.ks then nm else nm+999)=nm at hf jD hc⊢;simp only[aL,bf,cw]at hc h5;obtain⟨⟨c0,rfl⟩,c1,c2⟩:=hc;obtain⟨zF,Pt⟩:=h5;have hu:=pr hE h3 uG A_;obtain⟨inf,hi,gh,hby,ll,hz⟩:=hE.info el te h4;obtain⟨z,Kd,Ea,_⟩:=hz zF;have hr:=run_make (P:=P) w t el inf z hu hi Kd k1 k2 n n c0 (Int.le_refl _) (by
   have e1:((n.toNat*te.bytes:aF):aw)<=140737488355328:=(by generalize n.toNat*te.bytes=q at c1⊢;omega)
   rw[hby,Int.mul_comm];rw[W4,Int.toNat_of_nonneg c0]at e1;omega) (by omega)
  rw[Ea,gh]at hr;refine Cx cf dK hd (p:=⟨ak,w.heap.size,0,n.toNat,n.toNat,te.ks.length⟩) (g:=Ly E te.ks) hf jD (λc' hP hG _ _=> ?_) (λc' hP hG b hb=> ?_) (λxs hx b hb=>by cases hx) (λc' hP _=> ?_) (λn hn=> .inl (by simpa [cO,bS]using hn)) (λb hb=>heap_alloc_old w _ b hb) (by simp) rfl rfl rfl (v:= .slice (ah ⟨w.heap.size,0,aj⟩) n.toNat n.toNat) (w':=w.alloc (.cells (madeCells (te.ks.map iN).toArray (n.toNat*te.ks.length)) el)) ?_
  ·refine⟨⟨te,h4,by rw[hP],yI zF _⟩, ?_,λ_=>wh (λi j=>(by rw[hG];try rfl))⟩
   rw[hP,hG];refine⟨by simp[aP],λhn=>(by cases hn),λ_=>⟨_,n8.alloc w _ el,cF _,(by show n.toNat<=2^63-1;omega),by rw[size_madeCells];simp,λi y j x hi hj=> ?_⟩⟩
   obtain⟨gg,k,hk,rfl⟩:=uT hi hj;refine⟨iN k, ?_,by rw[bz rfl];exact OJ Pt zF hk⟩
   rw[bV];exact lX gg hk
  ·rcases hb with ⟨_,rfl⟩|⟨_,i,j,_,hn,_⟩
   ·rw[hP];exact cF _
   ·rw[hG]at hn;cases hn
  ·show _=lW _;rw[hP];rfl
  ·unfold execOp;rw[ho];exact ja (by rw[ex,ey];exact hr)
 ·simp at h
end
end Go.FG

namespace Go.FG
theorem jX{xs:aR}{i j:aF}{cs:az CV}:(eJ xs i j cs).length=xs.length:=by unfold eJ;simp
theorem yv{xs:aR}{i j:aF}{cs y:az CV}(hy:xs[i]? =ah y)(i':aF):(eJ xs i j cs)[i']? =if i'=i then ah (iH y j cs)else xs[i']? :=by
 have jD:=(aT.1 hy).1;have hd:xs.getD i []=y:=by rw[cS,hy];rfl
 unfold eJ;rw[Qs,hd];by_cases h:i'=i
 ·subst h;simp[jD]
 ·rw[bH h,bH (λe=>h e.symm)]
theorem n8.uniq{w:bL}{b:aF}{v1 v2:du bk}(h1:n8 w b v1)(h2:n8 w b v2):v1=v2:=by obtain⟨t,fr,h1,_⟩:=h1;obtain⟨t',fr',h2,_⟩:=h2;rw[h1]at h2;cases h2;rfl
theorem jl.pos{w:bL}{p:Pl}{xs:aR}{R:aF->aF->bk->CV->Prop}(h:jl w p xs R){i:aF}(hi:i<p.n):p.nil=ak/\∃vals,n8 w p.blk vals:=by
 have jE:p.nil=false:=by
  cases hn:p.nil with
  |false=>rfl
  |true=>have:=(h.nil hn).1;subst this;have:=h.n;simp at this;omega
 obtain⟨vals,hb,_⟩:=h.mem jE;exact⟨jE,vals,hb⟩
theorem jl.alH{w:bL}{p:Pl}{xs:aR}{R R':aF->aF->bk->CV->Prop}(h:jl w p xs R){vals:du bk}(hbv:n8 w p.blk vals)(hs:∀y∈xs,y.length=p.sz){i j:aF}{cs:az CV}{vs:az bk}(hi:i<p.n)(hj:j+cs.length<=p.sz)(hl:vs.length=cs.length)
  (zE:∀(q:aF) (x:CV),cs[q]? =ah x->∃u:bk,vs[q]? =ah u/\R' i (j+q) u x)
  (hold:∀(i1:aF) (y:az CV) (j1:aF) (x:CV) (u:bk),xs[i1]? =ah y->y[j1]? =ah x->(i1≠i\/¬(j<=j1/\j1<j+cs.length))->R i1 j1 u x->R' i1 j1 u x):
  p.off+i*p.sz+j+vs.length<=vals.size/\jl (w.setRow p.blk (eh vals (p.off+i*p.sz+j) vs)) p (eJ xs i j cs) R':=by
 have jE:p.nil=false:=by
  cases hn:p.nil with
  |false=>rfl
  |true=>have:=(h.nil hn).1;subst this;have:=h.n;simp at this;omega
 obtain⟨je,hb,S0,XM,mM,hc⟩:=h.mem jE;obtain rfl:=hbv.uniq hb;have mh:i<xs.length:=by rw[<-h.n];exact hi
 have hy:xs[i]? =ah xs[i]:=by simp[mh]
 have Jp:=hs xs[i] (bC mh);have h1:(i+1)*p.sz<=p.cap*p.sz:=b8 _ (by omega);rw[dp]at h1;have vv:p.off+i*p.sz+j+vs.length<=vals.size:=by omega
 refine⟨vv,⟨by rw[jX];exact h.n,λhn=>(by rw[jE]at hn;cases hn),λ_=> ?_⟩⟩
 refine⟨_,hb.setRow (fg vv),S0,XM,by rw[fg vv];exact mM,λi' y j' x mi Pw=> ?_⟩
 rw[yv hy]at mi;rw[gp vv];by_cases Jg:i'=i
 ·subst Jg;rw[bz rfl]at mi;cases mi;rw[pG (by omega)]at Pw;by_cases hq:j<=j'/\j'<j+cs.length
  ·rw[bz hq]at Pw;rw[bz (by omega)];obtain⟨u,hu,hr⟩:=zE (j'-j) x Pw;refine⟨u, ?_, ?_⟩
   ·rw[<-hu];congr 1;omega
   ·rwa[show j+(j'-j)=j' by omega]at hr
  ·rw[bH hq]at Pw;obtain⟨u,hu,hr⟩:=hc _ _ _ _ hy Pw;exact⟨u,by rw[bH (by omega)];exact hu,hold _ _ _ _ _ hy Pw (.inr hq) hr⟩
 ·rw[bH Jg]at mi;obtain⟨u,hu,hr⟩:=hc _ _ _ _ mi Pw;refine⟨u, ?_,hold _ _ _ _ _ mi Pw (.inl Jg) hr⟩
  have CB:j'<p.sz:=by rw[<-hs y (aQ mi)];exact(aT.1 Pw).1
  rw[bH ?_];exact hu;rcases Qv Jg with jD|hgt
  ·have:(i'+1)*p.sz<=i*p.sz:=b8 _ jD;rw[dp]at this;omega
  ·have:(i+1)*p.sz<=i'*p.sz:=b8 _ hgt;rw[dp]at this;omega
theorem jl.put{w:bL}{p:Pl}{xs:aR}{R R':aF->aF->bk->CV->Prop}(h:jl w p xs R){vals:du bk}(hbv:n8 w p.blk vals)(hs:∀y∈xs,y.length=p.sz){i j:aF}{cs:az CV}{vs:az bk}(hi:i<p.n)(hj:j+cs.length<=p.sz)(hl:vs.length=cs.length)
  (zE:∀(q:aF) (x:CV),cs[q]? =ah x->∃u:bk,vs[q]? =ah u/\R' i (j+q) u x)
  (hold:∀(i:aF) (y:az CV) (j:aF) (x:CV) (u:bk),xs[i]? =ah y->y[j]? =ah x->R i j u x->R' i j u x):
  p.off+i*p.sz+j+vs.length<=vals.size/\jl (w.setRow p.blk (eh vals (p.off+i*p.sz+j) vs)) p (eJ xs i j cs) R':=
 h.alH hbv hs hi hj hl zE (λi1 y j1 x u h1 h2 _ hr=>hold i1 y j1 x u h1 h2 hr)
theorem lr{xs:aR}{ks:az Ck}(h:∀y∈xs,y.map CV.kd=ks)(i j:aF):gj xs i j↔i<xs.length/\∃e,ks[j]? =ah (.l e):=by
 constructor
 ·rintro ⟨y,x,hy,hx,hl⟩;refine⟨(aT.1 hy).1, ?_⟩
  cases x with
  |l e ys=>exact⟨e,by rw[<-h y (aQ hy),bK,hx];rfl⟩
  |i=>simp[uH]at hl
  |b=>simp[uH]at hl
  |s=>simp[uH]at hl
 ·rintro ⟨hi,e,hk⟩;have hy:xs[i]? =ah xs[i]:=by simp[hi]
  have h1:=h xs[i] (bC hi);rw[<-h1,bK]at hk;cases hx:xs[i][j]? with
  |none=>rw[hx]at hk;cases hk
  |some x=>
   rw[hx]at hk;cases x with
   |l e2 ys=>exact⟨_,_,hy,hx,rfl⟩
   |i=>cases hk
   |b=>cases hk
   |s=>cases hk
theorem PG{y cs:az CV}{ks:az Ck}{j:aF}(hy:y.map CV.kd=ks)(hc:cs.map CV.kd=(ks.drop j).take cs.length)(hj:j+cs.length<=ks.length):(iH y j cs).map CV.kd=ks:=by
 have hl:y.length=ks.length:=by rw[<-hy];simp
 apply Wj;intro q;rw[bK,pG (by omega)];split
 ·rename_i h;have:(cs.map CV.kd)[q-j]? =((ks.drop j).take cs.length)[q-j]? :=by rw[hc]
  rw[bK]at this;rw[this,d_,bz (by omega),dQ];congr 1;omega
 ·rw[<-hy,bK]
theorem yx{xs:aR}{ks:az Ck}{i j:aF}{cs:az CV}(h:∀y∈xs,y.map CV.kd=ks)(hc:cs.map CV.kd=(ks.drop j).take cs.length)(hj:j+cs.length<=ks.length)(hi:i<xs.length):∀y∈eJ xs i j cs,y.map CV.kd=ks:=by
 intro y hy;obtain⟨q,hq⟩:=bY hy;rw[yv (y:=xs[i]) (by simp[hi])]at hq;split at hq
 ·cases hq;exact PG (h _ (bC hi)) hc hj
 ·exact h y (aQ hq)
section
variable {P:c5} {E:fQ} {σ:St} {a:Act} {w:bL} {c:e9} {o:fC} {nm:aF} {e:s8}
theorem zx{ex:aX}{k:Ck}{x:AV}{cv:CV}{ws:az (aF×eT)}{u:bk}(hp:plain [k]=ai)(h:(IP ex k x).val σ=ah (cv,ws))(hx:eM E w c x u):cv.kd=k/\Sc u cv/\uH cv=ak/\ws=[]:=by
 cases k with
 |i k=>
  cases x with
  |i k' n=>
   replace h:(if k=k' then Rd.ret (CV.i k n,[])else .fail:Rd (CV×az (aF×eT))).val σ=ah (cv,ws):=h;split at h
   ·rename_i hk;subst hk;obtain⟨rfl,rfl⟩:=bW (aJ h);exact⟨rfl,⟨hx,trivial⟩,rfl,rfl⟩
   ·simp at h
  |_=>simp[IP]at h
 |b=>
  cases x with
  |b n=>obtain⟨rfl,rfl⟩:=bW (aJ h);exact⟨rfl,⟨hx,trivial⟩,rfl,rfl⟩
  |_=>simp[IP]at h
 |s=>
  cases x with
  |s n=>obtain⟨rfl,rfl⟩:=bW (aJ h);exact⟨rfl,hx,rfl,rfl⟩
  |_=>simp[IP]at h
 |l=>simp[plain]at hp
 |o=>simp[plain]at hp
theorem Cm{ex:aX}:∀{ks:az Ck} {xs:az AV} {cs:az CV} {ws:az (aF×eT)} (hp:plain ks=ai) (h:(zy ex ks xs).val σ=ah (cs,ws)),cs.map CV.kd=ks/\cs.length=xs.length/\ws=[]/\
  ∀(vals:du bk),fZ E w c vals xs->∀(q:aF) (x:CV),cs[q]? =ah x->vals[q]? =ah (Qg x)/\uH x=ak/\okC x:=by
 intro ks;induction ks with
 |nil=>
  intro xs cs ws hp h;cases xs with
  |nil=>obtain⟨rfl,rfl⟩:=bW (aJ h);exact⟨rfl,rfl,rfl,λ_ _ q x hq=>by simp at hq⟩
  |cons=>simp[zy]at h
 |cons k ks ih=>
  intro xs cs ws hp h;cases xs with
  |nil=>simp[zy]at h
  |cons x xs=>
   obtain⟨⟨cv,w1⟩,h1,h⟩:=Rd.bind_some h;obtain⟨⟨cr,w2⟩,h2,h⟩:=Rd.bind_some h;obtain⟨rfl,rfl⟩:=bW (aJ h);simp only[plain,td,aL]at hp;have PD:plain [k]=true:=by simp[plain,hp.1]
   have hp2:plain ks=true:=hp.2;obtain⟨i1,i2,i3,i4⟩:=ih hp2 h2;have e1:=λu (hu:eM E w c x u)=>zx PD h1 hu;have kd1:cv.kd=k/\w1=[]:=by
    cases k<;>cases x<;>simp[IP,plain]at h1 PD<;>first
     |(obtain⟨rfl,rfl⟩:=h1;exact⟨rfl,rfl⟩)
     |(split at h1<;>simp at h1;rename_i hk;subst hk;obtain⟨rfl,rfl⟩:=h1;exact⟨rfl,rfl⟩)
   refine⟨by simp[kd1.1,i1],by simp[i2],by rw[kd1.2,i3];rfl,λvals hv q y hq=> ?_⟩
   cases q with
   |zero=>cases hq;obtain⟨u,hu,ha⟩:=hv.2 0 x rfl;obtain⟨_,⟨rfl,ho⟩,hl,_⟩:=e1 u ha;exact⟨hu,hl,ho⟩
   |succ q=>
    have ND:fZ E w c (vals.extract 1 vals.size) xs:=by
     refine⟨by simp;have:=hv.1;simp at this;omega,λj b hj=> ?_⟩
     obtain⟨u,hu,hb⟩:=hv.2 (j+1) b hj;refine⟨u, ?_,hb⟩
     have:=(dU.1 hu).1;rw[ea,bz (by omega),jc];exact hu
    obtain⟨r1,r2⟩:=i4 _ ND q y hq;refine⟨?_,r2⟩
    rw[ea]at r1;split at r1
    ·rw[jc];exact r1
    ·cases r1
theorem Z0{s:Sem Unit}{w':bL}(hr:s.run P w= .ok () w'):(do s;pure Next.skip:Sem Next).run P w= .ok .skip w':=by simp only[cj,hr,bG,cT]
theorem Fp:∀{ys:az AV} {q0 q n2:aF},zN q0 ys=ah (q,n2)->q0<=q/\ys[q-q0]? =ah (.own n2)/\∀(k m:aF),ys[k]? =ah (.own m)->k=q-q0:=by
 have Zl:∀{ys:az AV},JE ys=ai->∀(k m:aF),ys[k]? ≠ah (.own m):=by
  intro ys;induction ys with
  |nil=>intro h k m h;simp at h
  |cons y ys ih=>
   intro h k m hk;cases y with
   |own n=>cases h
   |_=>
    cases k with
    |zero=>cases hk
    |succ k=>exact ih (by simpa [JE]using h) k m hk
 intro ys;induction ys with
 |nil=>intro q0 q n2 h;cases h
 |cons y ys ih=>
  intro q0 q n2 h;have step:zN (q0+1) ys=ah (q,n2)->(∀m,y≠ .own m)->q0<=q/\(y::ys)[q-q0]? =ah (.own n2)/\∀(k m:aF),(y::ys)[k]? =ah (.own m)->k=q-q0:=by
   intro h hy;obtain⟨h1,h2,h3⟩:=ih h;have e:q-q0=(q-(q0+1))+1:=by omega
   refine⟨by omega,by rw[e,dO];exact h2,λk m hk=> ?_⟩
   cases k with
   |zero=>cases hk;exact cJ rfl (hy m)
   |succ k=>have:=h3 k m hk;omega
  cases y with
  |own n=>
   unfold zN at h;cases h1:JE ys with
   |false=>rw[h1]at h;cases h
   |true=>
    rw[h1]at h;cases h;refine⟨cF _,by rw[Nat.sub_self];rfl,λk m hk=> ?_⟩
    cases k with
    |zero=>omega
    |succ k=>exact cJ hk (Zl h1 k m)
  |_=>exact step (by simpa [zN]using h) (λm h=>by cases h)
theorem Xr{E:fQ}{w:bL}{c:e9}{e2 n2:aF}{zs:aR}:∀{ks:az Ck} {ys:az AV} {cs:az CV},D0 e2 n2 zs ks ys=ah cs->cs.map CV.kd=ks/\cs.length=ys.length/\
  ∀(q:aF) (x:CV),cs[q]? =ah x->∃y,ys[q]? =ah y/\((uH x=ak/\∀u,eM E w c y u->Sc u x)\/(x= .l e2 zs/\y= .own n2)):=by
 intro ks;induction ks with
 |nil=>
  intro ys cs h;cases ys with
  |nil=>cases h;exact⟨rfl,rfl,λq x h=>by simp at h⟩
  |cons=>cases h
 |cons k ks ih=>
  intro ys cs h
  have go:∀{y:AV} {r:az AV} {x:CV},ys=y::r->(D0 e2 n2 zs ks r).map (x:: ·)=ah cs->x.kd=k->((uH x=ak/\∀u,eM E w c y u->Sc u x)\/(x= .l e2 zs/\y= .own n2))->
    cs.map CV.kd=k::ks/\cs.length=ys.length/\∀(q:aF) (x:CV),cs[q]? =ah x->∃y,ys[q]? =ah y/\((uH x=ak/\∀u,eM E w c y u->Sc u x)\/(x= .l e2 zs/\y= .own n2)):=by
   intro y r x hy hm hk hx
   subst hy
   cases hr:D0 e2 n2 zs ks r with
   |none=>rw[hr]at hm;cases hm
   |some cr=>
    rw[hr]at hm;cases hm;obtain⟨i1,i2,i3⟩:=ih hr;refine⟨by simp[hk,i1],by simp[i2],λq z hq=> ?_⟩
    cases q with
    |zero=>cases hq;exact⟨y,rfl,hx⟩
    |succ q=>exact i3 q z hq
  cases ys with
  |nil=>cases k<;>cases h
  |cons y r=>
   cases k with
   |i k=>
    cases y with
    |i k' n=>
     unfold D0 at h;split at h
     ·rename_i hk;subst hk;exact go rfl h rfl (.inl ⟨rfl,λu hu=>⟨hu,trivial⟩⟩)
     ·cases h
    |_=>cases h
   |b=>
    cases y with
    |b n=>exact go rfl h rfl (.inl ⟨rfl,λu hu=>⟨hu,trivial⟩⟩)
    |_=>cases h
   |s=>
    cases y with
    |s n=>exact go rfl h rfl (.inl ⟨rfl,λu hu=>hu⟩)
    |_=>cases h
   |l e=>
    cases y with
    |own n=>
     unfold D0 at h;cases hb:(bD e e2&&bD n n2)with
     |false=>rw[hb]at h;cases h
     |true=>rw[hb,au]at h;simp only[aL]at hb;have:=aU hb.1;subst this;have:=aU hb.2;subst this;exact go rfl h rfl (.inr ⟨rfl,rfl⟩)
    |_=>cases h
   |o=>cases y<;>cases h
theorem Pm(cf:Ok E σ w c)(dK:fE E σ a w c)(hd:∀d,o.dst=ah d->d<a.tmps.size){n i j:aF}{ys:az AV}{ws:az (aF×eT)}{X:du bk}(hF:zH n=ai)(hi:i<(c.P n).n)(h:(HJ E n i j ys).val σ=ah ws)(oe:fZ E w c X ys)(ll:0<ys.length)
  (exec:∀(cur:du bk),n8 w (c.P n).blk cur->(c.P n).off+i*(c.P n).sz+j+X.size<=cur.size->(execOp a.eval o).run P w= .ok .skip (w.setRow (c.P n).blk (eh cur ((c.P n).off+i*(c.P n).sz+j) X.toList))):gZ P E σ a w c o (ws++dw o .un):=by
 unfold HJ at h;obtain⟨ob,hg0,h⟩:=Rd.bind_some h;have hg:=dz hg0;split at h
 ·rename_i el xs;obtain⟨te,h6,h⟩:=Rd.bind_some h;have h6:=dW h6;split at h
  ·rename_i q n2 xO;cases hb0:bD n n2 with
   |true=>rw[hb0]at h;simp at h
   |false=>
    rw[hb0,ax]at h;have iB:n≠n2:=λe=>by subst e;rw[Nat.beq_refl]at hb0;cases hb0
    obtain⟨ob2,arU,h⟩:=Rd.bind_some h;have hg2:=dz arU;split at h
    ·rename_i e2 zs;obtain⟨t2,h7,h⟩:=Rd.bind_some h;have h7:=dW h7;obtain⟨h8,h⟩:=cR h;simp only[aL]at h8;obtain⟨s5,hle⟩:=h8;have hle:=cM hle;split at h
     ·rename_i cs H6;obtain rfl:=aJ h;obtain⟨m1,m2,m3⟩:=Xr (E:=E) (w:=w) (c:=c) H6;obtain⟨_,_,hu⟩:=Fp xO;rw[sr]at hu;obtain⟨⟨t1,q1,gh,mR⟩,gf,gg⟩:=cf.obj n _ hg;obtain rfl:te=t1:=aJ (h6.symm.trans q1);obtain⟨⟨t3,q3,Lj,D8⟩,oV,_⟩:=cf.obj n2 _ hg2;obtain rfl:t2=t3:=aJ (h7.symm.trans q3);have j8:j+cs.length<=te.ks.length:=by rw[m2];exact hle
      have hkd:cs.map CV.kd=(te.ks.drop j).take cs.length:=by rw[m1,m2]
      have mh:i<xs.length:=by rw[<-gf.n];exact hi
      obtain⟨jE,vals,hb⟩:=gf.pos hi;have Jh:=lr mR;have sN:=yx mR hkd j8 mh;have CA:=lr sN;have same:∀i' j',gj (eJ xs i j cs) i' j'->gj xs i' j':=λi' j' hx=>(Jh i' j').2 (by have:=(CA i' j').1 hx;rwa[jX]at this);have Jp:∀y∈xs,y.length=(c.P n).sz:=λy hy=>by rw[gh,<-mR y hy];simp
      let w':=w.setRow (c.P n).blk (eh vals ((c.P n).off+i*(c.P n).sz+j) X.toList);have rR:∀b,b≠(c.P n).blk->w'.heap[b]? =w.heap[b]? :=λb hb=>setRow_other w _ b _ hb;have auW:∀i j,¬gj zs i j:=by rintro i j ⟨y,x,h1,h2,h3⟩;rw[iw s5 (D8 y (aQ h1)) h2]at h3;cases h3
      have Zt:(c.P n2).nil=ak->fL c n2 (.row e2 ai zs) (c.P n2).blk:=λhn=> .inl ⟨hn,rfl⟩;have LL:fL c n (.row el ai xs) (c.P n).blk:= .inl ⟨jE,rfl⟩;have aj1:(c.P n2).nil=ak->(c.P n2).blk≠(c.P n).blk:=λhn he=>iB (cf.sep n _ n2 _ _ hg hg2 LL (by rw[<-he];exact Zt hn));let c':e9:=⟨c.P,λm i' j'=>if m=n/\i'=i/\j'=j+q then c.P n2 else c.G m i' j',c.K⟩
      have hG1:c'.G n i (j+q)=c.P n2:=bz ⟨rfl,rfl,rfl⟩;have hG2:∀i' j',¬(i'=i/\j'=j+q)->c'.G n i' j'=c.G n i' j':=λi' j' h=>bH (λe=>h ⟨e.2.1,e.2.2⟩);have hG3:∀m,m≠n->c'.G m=c.G m:=λm hm=>by funext i' j';exact bH (λe=>hm e.1)
      have X8:∀i' j',gj (eJ xs i j cs) i' j'->(c'.G n i' j').nil=ak->(i'=i/\j'=j+q/\(c.P n2).nil=ak/\(c'.G n i' j').blk=(c.P n2).blk)\/(¬(i'=i/\j'=j+q)/\(c.G n i' j').nil=ak/\(c'.G n i' j').blk=(c.G n i' j').blk/\fL c n (.row el ai xs) (c.G n i' j').blk):=by
       intro i' j' hh hn;by_cases he:i'=i/\j'=j+q
       ·obtain⟨rfl,rfl⟩:=he;rw[hG1]at hn⊢;exact .inl ⟨rfl,rfl,hn,rfl⟩
       ·rw[hG2 i' j' he]at hn⊢;exact .inr ⟨he,hn,rfl, .inr ⟨rfl,i',j',same i' j' hh,hn,rfl⟩⟩
      obtain⟨mM,A6⟩:=jl.alH (R':=λi1 j1 u1 x1=>if ai=ai then XC E w' (c'.G n) i1 j1 u1 x1 else c_ E w' c'.K u1 x1) gf hb Jp (i:=i) (j:=j) (cs:=cs) (vs:=X.toList) hi (by rw[gh];exact j8) (by rw[dR,oe.1,m2])
       (λk x hk=>by
        obtain⟨y,hy,hxy⟩:=m3 k x hk;obtain⟨u,hu1,hu2⟩:=oe.2 k y hy;refine⟨u,by rw[cY];exact hu1, ?_⟩
        rw[bz rfl];rcases hxy with ⟨hl,hsc⟩|⟨rfl,rfl⟩
        ·exact uQ hl (hsc u hu2)
        ·have we:k=q:=hu k n2 hy;subst we;have hu2:u=lW (c.P n2):=hu2;refine⟨by rw[hG1];exact hu2,t2,h7,s5,by rw[hG1];exact Lj,D8, ?_⟩
         rw[hG1];exact oV.frame (λhn=>rR _ (aj1 hn)) (λi1 j1 y1 x1 u1 g1 g2 hr=>by rw[bz rfl]at hr;exact uS hr (iw s5 (D8 y1 (aQ g1)) g2)))
       (λi1 y1 j1 x1 u1 h1 h2 asn hr=>by
        rw[bz rfl]at hr⊢;have D7:XC E w' (c.G n) i1 j1 u1 x1:=hr.frame (λhl hn=>rR _ ((gg rfl).out i1 j1 ⟨y1,x1,h1,h2,hl⟩ hn jE));have asa:¬(i1=i/\j1=j+q):=by
         rintro ⟨rfl,rfl⟩;have hq:q<cs.length:=by obtain⟨_,hq,_⟩:=Fp xO;rw[sr]at hq;rw[m2];exact(aT.1 hq).1
         rcases asn with h|h
         ·exact h rfl
         ·exact h ⟨by omega,by omega⟩
        cases x1 with
        |l ee zz=>obtain⟨r1,r2⟩:=D7;unfold XC;rw[hG2 i1 j1 asa];exact⟨r1,r2⟩
        |i=>exact D7
        |b=>exact D7
        |s=>exact D7)
      have hr:=exec vals hb (by rw[dR]at mM;exact mM);let σ1:=pS (pS σ (c8 n) (.o (.row el ai (eJ xs i j cs)))) (c8 n2) (.o .dead);obtain⟨s1,s2,s3⟩:=sg σ1 o .un;have key:∀m,wr σ1 (dw o .un) (c8 m)=if m=n2 then .o .dead else if m=n then .o (.row el ai (eJ xs i j cs))else σ (c8 m):=λm=>by rw[s3];show(pS (pS σ (c8 n) (.o (.row el ai (eJ xs i j cs)))) (c8 n2) (.o .dead)) (c8 m)=_;rw[qd,qd]
      have aje:∀m,σ (c8 m)≠ .j9->wr σ1 (dw o .un) (c8 m)≠ .j9:=λm hm=>by rw[key];split;simp;split;simp;exact hm
      have hA:rk σ c c':=λm _=>⟨rfl,λhf=>hG3 m (λe=>by subst e;rw[hF]at hf;cases hf)⟩
      have hCh:∀m,m=n\/m=n2->∃ob,σ (c8 m)= .o ob:=by rintro m (rfl|rfl);exact⟨_,hg⟩;exact⟨_,hg2⟩
      have gP:∀m x,(m=n\/m=n2)->wr σ1 (dw o .un) (c8 m)= .o x->(m=n2/\x= .dead)\/(m=n/\x= .row el ai (eJ xs i j cs)):=by
       intro m x hm hx;rw[key]at hx;by_cases Xq:m=n2
       ·rw[bz Xq]at hx;cases hx;exact .inl ⟨Xq,rfl⟩
       ·rw[bH Xq,bz (hm.resolve_right Xq)]at hx;cases hx;exact .inr ⟨hm.resolve_right Xq,rfl⟩
      have hh:=cf.xA (σ':=wr σ1 (dw o .un)) (w':=w') (c':=c') (λm=>m=n\/m=n2) (λm hm=>by rw[key,bH (λe=>hm (.inr e)),bH (λe=>hm (.inl e))]) aje hA (λm hm _=>hG3 m (λe=>hm (.inl e)))
       (λb _ XQ=>rR b (λe=>XQ ⟨n,_, .inl rfl,hg,by rw[e];exact LL⟩)) (by simp[w',lI]) (λ_ h=>h) (λ_ h=> .inl h) (λb hb=>jy (cf.lt b hb) (by simp[w',lI]))
       (λm x hm hx=>by
        rcases gP m x hm hx with ⟨rfl,rfl⟩|⟨rfl,rfl⟩
        ·trivial
        ·refine⟨⟨te,q1,gh,sN⟩,A6,λ_=>⟨λi1 j1 hh hn _ he=> ?_,λi1 j1 i2 j2 h1 h2 n1 n2' he=> ?_⟩⟩
         ·rcases X8 i1 j1 hh hn with ⟨_,_,g1,g2⟩|⟨_,g1,g2,g3⟩
          ·exact aj1 g1 (g2.symm.trans he)
          ·exact(gg rfl).out i1 j1 (same i1 j1 hh) g1 jE (g2.symm.trans he)
         ·rcases X8 i1 j1 h1 n1 with ⟨a1,a2,a3,a4⟩|⟨a1,a2,a3,a4⟩<;>rcases X8 i2 j2 h2 n2' with ⟨b1,b2,b3,b4⟩|⟨b1,b2,b3,b4⟩
          ·exact⟨a1.trans b1.symm,a2.trans b2.symm⟩
          ·exfalso;exact iB (cf.sep m _ n2 _ _ hg hg2 b4 (by rw[<-b3,<-he,a4];exact Zt a3))
          ·exfalso;exact iB (cf.sep m _ n2 _ _ hg hg2 a4 (by rw[<-a3,he,b4];exact Zt b3))
          ·exact(gg rfl).one i1 j1 i2 j2 (same i1 j1 h1) (same i2 j2 h2) a2 b2 (a3.symm.trans (he.trans b3)))
       (λm x b hm hx hf=>by
        rcases gP m x hm hx with ⟨rfl,rfl⟩|⟨rfl,rfl⟩
        ·exact hf.elim
        ·have ai6:ka (λk=>k=m\/k=n2) σ c b:=by
          rcases hf with ⟨_,rfl⟩|⟨_,i1,j1,hh,hn,rfl⟩
          ·exact⟨m,_, .inl rfl,hg,LL⟩
          ·rcases X8 i1 j1 hh hn with ⟨_,_,g1,g2⟩|⟨_,g1,g2,g3⟩
           ·rw[g2];exact⟨n2,_, .inr rfl,hg2,Zt g1⟩
           ·rw[g2];exact⟨m,_, .inl rfl,hg,g3⟩
         exact⟨.inl ai6,cf.JF ai6.own⟩)
       (λm x m' x' b hm xN hx pL hf vu=>by
        rcases gP m x hm hx with ⟨rfl,rfl⟩|⟨rfl,rfl⟩
        ·exact hf.elim
        ·rcases gP m' x' xN pL with ⟨rfl,rfl⟩|⟨rfl,rfl⟩
         ·exact vu.elim
         ·rfl)
       (λm bs hm hx=>by rcases gP m _ hm hx with ⟨_,h⟩|⟨_,h⟩<;>cases h) rfl rfl rfl
      intro K Q hK;refine Dq hr (hK undef w' c' hh.1 ?_ hh.2 hA);refine dK.xA cf hh.2 hA aje o undef (λk hk=>by rw[s1 k hk];show slot (pS (pS σ (c8 n) (.o (.row el ai (eJ xs i j cs)))) (c8 n2) (.o .dead)) k=_;rw[jt,jt]) (λd ho=>⟨hd d ho, ?_, ?_⟩)
      ·rw[s2 d ho];trivial
      ·rw[s2 d ho];intro k hk;simp[cO]at hk
     ·simp at h
    ·simp at h
  ·simp at h
 ·simp at h
theorem UC(hE:eH P E)(cf:Ok E σ w c)(dK:fE E σ a w c)(hd:∀d,o.dst=ah d->d<a.tmps.size){t:aF}{p x:dy}(ho:o.op= .store t p x)(h:(ml E nm o).val σ=ah e):gZ P E σ a w c o e.ws:=by
 simp only[ml,ho]at h;obtain⟨ti,h1,h⟩:=Rd.bind_some h;obtain⟨pv,h2,h⟩:=Rd.bind_some h;obtain⟨xv,h3,h⟩:=Rd.bind_some h;have h1:=dW h1;obtain⟨ep,kp⟩:=jb dK h2;obtain⟨ex,kx⟩:=mB dK h3;cases xv with
 |v g ys=>
  obtain⟨h4,h⟩:=cR h;have h4:=aU h4;obtain⟨ws,h5,h⟩:=Rd.bind_some h;obtain rfl:=aJ h;have oe:=qq.cells ex;have H6:(a.eval x).cells.size=ti.ks.length:=by rw[oe.1,h4]
  have ky:∀b∈ys,jj σ b:=λb hb n hn=>kx n (bQ.2 ⟨b,hb,hn⟩);obtain⟨_,_,_,_,ll,_⟩:=hE.info t ti h1;have exec:∀{b of:aF} {cur:du bk},a.eval p= .pointer (ah (ad b of))->n8 w b cur->of+(a.eval x).cells.size<=cur.size->(execOp a.eval o).run P w= .ok .skip (w.setRow b (eh cur of (a.eval x).cells.toList)):=by intro b of cur hp hb hf;unfold execOp;rw[ho];refine Z0 ?_;rw[hp];exact JV w hE h1 H6 hb hf oe.one
  have hkK:∀(b:aF) (new:du bk),wO σ c b->∀b',c.K b'->(w.setRow b new).heap[b']? =w.heap[b']? :=by intro b new hb b' hk;exact setRow_other w b b' new (λe=>by subst e;exact cf.JF hb hk)
  have h5:(HK E pv ys).val σ=ah ws\/∃n i j,pv= .rp n i j/\zH n=ai/\(HJ E n i j ys).val σ=ah ws:=by
   cases pv with
   |rp n i j=>
    unfold VQ at h5;simp only at h5;cases hF:zH n with
    |true=>rw[hF,au]at h5;exact .inr ⟨n,i,j,rfl,hF,h5⟩
    |false=>rw[hF,ax]at h5;exact .inl h5
   |_=>exact .inl h5
  rcases h5 with h5|⟨n,i,j,rfl,hF,h5⟩
  rotate_left
  ·obtain⟨hpi,hpv⟩:=ep;exact Pm cf dK hd hF hpi h5 oe (by rw[<-h4]at ll;exact ll) (λcur hb hf=>exec hpv hb hf)
  cases pv with
  |bp n j=>
   obtain⟨ob,hg,h5⟩:=Rd.bind_some h5;have hg:=dz hg;cases ob with
   |box xs=>
    obtain⟨h6,h5⟩:=cR h5;have h6:=cM h6;obtain rfl:=aJ h5;obtain⟨cur,hb,gh,hcv⟩:=cf.obj n _ hg;have wg:wO σ c (c.P n).blk:=⟨n,_,hg,rfl⟩
    have mM:j+(a.eval x).cells.size<=cur.size:=by rw[oe.1,gh];exact h6
    have ai1:j+(a.eval x).cells.toList.length<=cur.size:=by rw[dR];exact mM
    have Ao:=hkK (c.P n).blk (eh cur j (a.eval x).cells.toList) wg;refine tJ cf dK hd hg (ob':= .box (iH xs j ys)) ?_ (λb hb=>hb) (λzs hz b hb=> ?_) (s:= .un) trivial (λn hn=>by simp[cO]at hn) (λb hb QE=>setRow_other w _ b _ (λe=>QE e)) (by simp[lI]) rfl rfl rfl (.inr ⟨exec ep hb mM,rfl⟩)
    ·have:=(fZ.put (E:=E) (w:=w) (c:=c) ⟨gh,hcv⟩ oe h6)
     refine⟨_,hb.setRow (fg ai1),this.1,λq b hq=> ?_⟩
     obtain⟨u,hu,hub⟩:=this.2 q b hq;exact⟨u,hu,hub.frame Ao (λ_ h=>h) (λ_ _=>⟨rfl,rfl⟩)⟩
    ·cases hz;rcases CI hb with hb|hb
     ·exact cf.kn n xs hg b hb
     ·exact ky b hb
   |_=>simp at h5
  |rp n i j=>
   obtain⟨ob,hg,h5⟩:=Rd.bind_some h5;have hg:=dz hg;cases ob with
   |row el A5 xs=>
    obtain⟨te,h6,h5⟩:=Rd.bind_some h5;have h6:=dW h6;obtain⟨h7,h5⟩:=cR h5;obtain⟨⟨cs,w2⟩,h8,h5⟩:=Rd.bind_some h5;obtain rfl:=aJ h5;obtain⟨m1,m2,_,m3⟩:=Cm (E:=E) (w:=w) (c:=c) h7 h8;obtain⟨⟨t2,q1,gh,mR⟩,gf,gg⟩:=cf.obj n _ hg;obtain rfl:te=t2:=aJ (h6.symm.trans q1);obtain⟨hi,hpv⟩:=ep;have hlk:cs.length=((te.ks.drop j).take ys.length).length:=by rw[<-m1];simp
    have j8:j+cs.length<=te.ks.length:=by
     rw[eD,iE]at hlk;have:0<cs.length:=by rw[m2,h4];exact ll
     omega
    have hkd:cs.map CV.kd=(te.ks.drop j).take cs.length:=by rw[m1,m2]
    have mh:i<xs.length:=by rw[<-gf.n];exact hi
    have jE:(c.P n).nil=false:=by
     cases hn:(c.P n).nil with
     |false=>rfl
     |true=>have:=(gf.nil hn).1;subst this;simp at mh
    have wg:wO σ c (c.P n).blk:=⟨n,_,hg, .inl ⟨jE,rfl⟩⟩
    have Ao:=λnew=>hkK (c.P n).blk new wg;have Jh:=lr mR;have sN:=yx mR hkd j8 mh;have CA:=lr sN;have same:∀i' j',gj (eJ xs i j cs) i' j'->gj xs i' j':=λi' j' hx=>(Jh i' j').2 (by have:=(CA i' j').1 hx;rwa[jX]at this);obtain⟨_,vals,hb⟩:=gf.pos hi;have Jp:∀y∈xs,y.length=(c.P n).sz:=λy hy=>by rw[gh,<-mR y hy];simp
    have arS:=Ao (eh vals ((c.P n).off+i*(c.P n).sz+j) (a.eval x).cells.toList);have hw:∀b,c.K b->(w.setRow (c.P n).blk (eh vals ((c.P n).off+i*(c.P n).sz+j) (a.eval x).cells.toList)).heap[b]? =w.heap[b]? :=arS;generalize NA:w.setRow (c.P n).blk (eh vals ((c.P n).off+i*(c.P n).sz+j) (a.eval x).cells.toList)=w' at hw;have rR:∀b,b≠(c.P n).blk->w'.heap[b]? =w.heap[b]? :=λb hb=>by rw[<-NA];exact setRow_other w _ b _ hb
    obtain⟨mM,A6⟩:=jl.put (R':=λi1 j1 u1 x1=>if A5=ai then XC E w' (c.G n) i1 j1 u1 x1 else c_ E w' c.K u1 x1) gf hb Jp (i:=i) (j:=j) (cs:=cs) (vs:=(a.eval x).cells.toList) hi (by rw[gh];exact j8) (by rw[dR,oe.1,m2])
     (λq y hq=>by
      obtain⟨r1,r2,r3⟩:=m3 _ oe q y hq;refine⟨Qg y,by rw[cY];exact r1, ?_⟩
      split
      ·exact uQ r2 ⟨rfl,r3⟩
      ·exact kT r2 ⟨rfl,r3⟩)
     (λi1 y1 j1 x1 u1 h1 h2 hr=>by
      cases A5 with
      |true=>rw[bz rfl]at hr⊢;exact hr.frame (λhl hn=>rR _ ((gg rfl).out i1 j1 ⟨y1,x1,h1,h2,hl⟩ hn jE))
      |false=>rw[bH (by simp)]at hr⊢;exact hr.frame hw (λ_ h=>h))
    rw[NA]at A6;refine tJ cf dK hd hg (ob':= .row el A5 (eJ xs i j cs)) ?_ ?_ (λzs hz=>by cases hz) (s:= .un) trivial (λn hn=>by simp[cO]at hn) (w':=w') (λb hb QE=>rR b (λe=>QE (.inl ⟨jE,e⟩))) (by rw[<-NA];simp[lI]) (by rw[<-NA];rfl) (by rw[<-NA];rfl) (by rw[<-NA];rfl) (.inr ⟨?_,rfl⟩)
    ·exact⟨⟨te,q1,gh,sN⟩,A6,λhx=>⟨λi1 j1 hh=>(gg hx).out i1 j1 (same i1 j1 hh),λi1 j1 i2 j2 h1 h2=>(gg hx).one i1 j1 i2 j2 (same i1 j1 h1) (same i2 j2 h2)⟩⟩
    ·rintro b (hb|⟨hx,i1,j1,hh,hn⟩)
     ·exact .inl hb
     ·exact .inr ⟨hx,i1,j1,same i1 j1 hh,hn⟩
    ·rw[<-NA];refine exec hpv hb ?_;rw[dR]at mM;exact mM
   |_=>simp at h5
  |ip n i j i2 j2=>
   obtain⟨ob,hg,h5⟩:=Rd.bind_some h5;have hg:=dz hg;cases ob with
   |row el A5 xs=>
    cases A5 with
    |false=>simp at h5
    |true=>
    obtain⟨te,h6,h5⟩:=Rd.bind_some h5;have h6:=dW h6;split at h5
    ·rename_i e2 Ap;obtain⟨t2,h7,h5⟩:=Rd.bind_some h5;have h7:=dW h7;obtain⟨h8,h5⟩:=cR h5;obtain⟨⟨cs,w2⟩,h9,h5⟩:=Rd.bind_some h5;obtain rfl:=aJ h5;have ajk:plain ((t2.ks.drop j2).take ys.length)=true:=bu.2 (λk hk=>bu.1 h8 k (la (ld hk)));obtain⟨m1,m2,_,m3⟩:=Cm (E:=E) (w:=w) (c:=c) ajk h9;obtain⟨⟨hi,sC,hpv⟩,_⟩:=ep;obtain⟨⟨t1,q1,gh,mR⟩,gf,gg⟩:=cf.obj n _ hg;obtain rfl:te=t1:=aJ (h6.symm.trans q1);obtain⟨zs,y,t3,r1,r2,r3,r4,r5,r6,r7,_⟩:=BA cf hg h6 Ap hi;obtain rfl:t2=t3:=aJ (h7.symm.trans r3);rw[fG r1 r2];simp only[jz];have hlk:cs.length=((t2.ks.drop j2).take ys.length).length:=by rw[<-m1];simp
     have j8:j2+cs.length<=t2.ks.length:=by
      rw[eD,iE]at hlk;have:0<cs.length:=by rw[m2,h4];exact ll
      omega
     have hkd:cs.map CV.kd=(t2.ks.drop j2).take cs.length:=by rw[m1,m2]
     have arX:i2<zs.length:=by rw[<-r7.n];exact sC
     have mh:i<xs.length:=(aT.1 r1).1;obtain⟨CD,vals,hb⟩:=r7.pos sC;obtain⟨jE,pv,hpb⟩:=gf.pos hi;have D5:gj xs i j:=⟨y,_,r1,r2,rfl⟩
     have wg:wO σ c (c.G n i j).blk:=⟨n,_,hg, .inr ⟨rfl,i,j,D5,CD,rfl⟩⟩
     have hw:=hkK (c.G n i j).blk (eh vals ((c.G n i j).off+i2*(c.G n i j).sz+j2) (a.eval x).cells.toList) wg;have Ll:∀y∈zs,y.length=(c.G n i j).sz:=λy hy=>by rw[r5,<-r6 y hy];simp
     obtain⟨mM,A6⟩:=jl.put (R':=λ_ _ u1 x1=>Sc u1 x1) r7 hb Ll (i:=i2) (j:=j2) (cs:=cs) (vs:=(a.eval x).cells.toList) sC (by rw[r5];exact j8) (by rw[dR,oe.1,m2])
      (λq y hq=>⟨Qg y,by rw[cY];exact(m3 _ oe q y hq).1,rfl,(m3 _ oe q y hq).2.2⟩) (λ_ _ _ _ _ _ _ hr=>hr)
     generalize NA:w.setRow (c.G n i j).blk (eh vals ((c.G n i j).off+i2*(c.G n i j).sz+j2) (a.eval x).cells.toList)=w' at hw A6;have rR:∀b,b≠(c.G n i j).blk->w'.heap[b]? =w.heap[b]? :=λb hb=>by rw[<-NA];exact setRow_other w _ b _ hb
     have hjk:j<te.ks.length:=(aT.1 Ap).1;have afg:[CV.l e2 (eJ zs i2 j2 cs)].map CV.kd=(te.ks.drop j).take [CV.l e2 (eJ zs i2 j2 cs)].length:=by rw[bA,List.take_one,List.head?_drop,Ap];rfl
     have sN:=yx (i:=i) (j:=j) (cs:=[CV.l e2 (eJ zs i2 j2 cs)]) mR afg (by simp;omega) mh;have Jh:=lr mR;have CA:=lr sN;have same:∀i' j',gj (eJ xs i j [CV.l e2 (eJ zs i2 j2 cs)]) i' j'->gj xs i' j':=λi' j' hx=>(Jh i' j').2 (by have:=(CA i' j').1 hx;rwa[jX]at this);have afo:(c.P n).blk≠(c.G n i j).blk:=λe=>(gg rfl).out i j D5 CD jE e.symm;have oV:jl w' (c.P n) (eJ xs i j [CV.l e2 (eJ zs i2 j2 cs)]) (λi1 j1 u1 x1=>if ai=ai then XC E w' (c.G n) i1 j1 u1 x1 else c_ E w' c.K u1 x1):=by
      obtain⟨vs,k1,k2,k3,k4,k5⟩:=gf.mem jE;refine⟨by rw[jX];exact gf.n,λhn=>(by rw[jE]at hn;cases hn),λ_=>⟨vs,k1.frame (rR _ afo),k2,k3,k4,λi1 y1 j1 x1 g1 g2=> ?_⟩⟩
      rw[yv r1]at g1;simp only[if_true]at k5⊢;by_cases Jg:i1=i
      ·subst Jg;rw[bz rfl]at g1;cases g1;have Jp:y.length=te.ks.length:=by rw[<-mR y (aQ r1)];simp
       rw[pG (by simp;omega)]at g2;by_cases hq:j<=j1/\j1<j+[CV.l e2 (eJ zs i2 j2 cs)].length
       ·rw[bz hq]at g2;have:j1=j:=by simp at hq;omega
        subst this;simp at g2;subst g2;obtain⟨u,hu,hr⟩:=k5 _ _ _ _ r1 r2;refine⟨u,hu,hr.1,t2,r3,r4,r5,yx r6 hkd j8 arX,A6⟩
       ·rw[bH hq]at g2;obtain⟨u,hu,hr⟩:=k5 _ _ _ _ r1 g2;refine⟨u,hu,hr.frame (λhl hn=>rR _ (λe=> ?_))⟩
        have:=((gg rfl).one _ _ _ _ ⟨y,x1,r1,g2,hl⟩ D5 hn CD e).2;simp at hq;omega
      ·rw[bH Jg]at g1;obtain⟨u,hu,hr⟩:=k5 _ _ _ _ g1 g2;exact⟨u,hu,hr.frame (λhl hn=>rR _ (λe=>Jg ((gg rfl).one _ _ _ _ ⟨y1,x1,g1,g2,hl⟩ D5 hn CD e).1))⟩
     refine tJ cf dK hd hg (ob':= .row el ai (eJ xs i j [CV.l e2 (eJ zs i2 j2 cs)])) ?_ ?_ (λzs hz=>by cases hz) (s:= .un) trivial (λn hn=>by simp[cO]at hn) (w':=w') (λb hb QE=>rR b (λe=>QE (.inr ⟨rfl,i,j,D5,CD,e⟩))) (by rw[<-NA];simp[lI]) (by rw[<-NA];rfl) (by rw[<-NA];rfl) (by rw[<-NA];rfl) (.inr ⟨?_,rfl⟩)
     ·exact⟨⟨te,q1,gh,sN⟩,oV,λhx=>⟨λi1 j1 hh=>(gg hx).out i1 j1 (same i1 j1 hh),λi1 j1 i2 j2 h1 h2=>(gg hx).one i1 j1 i2 j2 (same i1 j1 h1) (same i2 j2 h2)⟩⟩
     ·rintro b (hb|⟨hx,i1,j1,hh,hn⟩)
      ·exact .inl hb
      ·exact .inr ⟨hx,i1,j1,same i1 j1 hh,hn⟩
     ·rw[<-NA];refine exec hpv hb ?_;rw[dR]at mM;exact mM
    ·simp at h5
   |_=>simp at h5
  |_=>simp[HK]at h5
 |kl=>simp at h
 |un=>simp at h
end
end Go.FG

namespace Go.FG
theorem P5{ks:az Ck}(h:plain ks=ai):LB ks=true:=by refine bu.2 (λk hk=> ?_);have:=bu.1 h k hk;cases k<;>first|rfl|exact this
theorem tX{xs:aR}{ks:az Ck}(h:∀y∈xs,y.map CV.kd=ks)(hp:plain ks=ai){i j:aF}:¬gj xs i j:=by intro hx;obtain⟨_,e,hk⟩:=(lr h i j).1 hx;have:=bu.1 hp _ (aQ hk);cases this
theorem II{xs z:aR}{lo hi:aF}(h1:lo<=hi)(h2:hi<=xs.length)(hz:z.length=hi-lo)(i:aF):(xs.take lo++z++xs.drop hi)[i]? =if lo<=i/\i<hi then z[i-lo]? else xs[i]? :=by
 by_cases a:i<lo
 ·rw[bH (by omega),cz,dH (by simp;omega),d_,bz a]
 ·by_cases b:i<hi
  ·rw[bz ⟨by omega,b⟩,cz,da (by simp;omega),dH (by simp;omega)];congr 1;simp;omega
  ·rw[bH (by omega),cz,da (by simp;omega),da (by simp;omega),dQ];congr 1;simp;omega
section
variable {P:c5} {E:fQ} {σ:St} {a:Act} {w:bL} {c:e9} {o:fC} {nm:aF} {e:s8}
theorem Qd{t ty el:aF}{z:bk}{inf:Kr}(hu:P.underlying t=ah (.slice el))(hi:P.info? el=ah inf)(hz:inf.zero=ah z){b of n cp:aF}{cur:du bk}(hn:0<n)(hb:n8 w b cur)(hf:of+n*z.cells.size<=cur.size)(h1:∀u∈z.cells.toList,u.oneCell'=ai):
  (oX #[t] ty #[.slice (ah (ad b of)) n cp]).run P w= .ok (.tuple #[]) (w.setRow b (eh cur of (madeCells z.cells (n*z.cells.size)).toList)):=by
 have Li:=nQ (P:=P) w (o:=of) (vs:=(madeCells z.cells (n*z.cells.size)).toList) hb (by simpa [size_madeCells]using hf) (λv hv=>by
  unfold madeCells at hv;simp only[AD,cW]at hv;obtain⟨q,hq,rfl⟩:=hv;have hq:q<n*z.cells.size:=by simpa using hq
  have hp:0<z.cells.size:=by rcases Dw z.cells.size with h|h;(rw[h]at hq;simp at hq);exact h
  have:q%z.cells.size<z.cells.size:=Dx _ hp;rw[getElem!_pos z.cells _ this];exact h1 _ (by simp))
 have hz':(fN z.cells n)=madeCells z.cells (n*z.cells.size):=rfl;cases n with
 |zero=>omega
 |succ n=>simp[oX,run_underlying hu,zeroValue,typeInfo,hi,hz,hz',Li]
theorem C9{t ty el:aF}(hu:P.underlying t=ah (.slice el)){A:aC Addr}{cp:aF}:(oX #[t] ty #[.slice A 0 cp]).run P w= .ok (.tuple #[]) w:=by cases A<;>simp[oX,run_underlying hu]
theorem Uy(hE:eH P E)(cf:Ok E σ w c)(dK:fE E σ a w c)(hd:∀d,o.dst=ah d->d<a.tmps.size){cl:Call}(ho:o.op= .call cl)(hb:cl.callee= .builtin .clear)(h:(ml E nm o).val σ=ah e):gZ P E σ a w c o e.ws:=by
 simp only[ml,ho,hb]at h;split at h
 ·rename_i x hx;split at h
  ·rename_i t ht;obtain⟨k,hk,h⟩:=Rd.bind_some h;cases k with
   |l el=>
    obtain⟨v,h1,h⟩:=Rd.bind_some h;obtain⟨ws,h2,h⟩:=Rd.bind_some h;obtain rfl:=aJ h;obtain⟨ev,kv⟩:=jb dK h1;have hu:=kP hE hk;have hx:=nL hx;have ht:=nL ht;have exec:∀{w'},(oX #[t] o.type #[a.eval x]).run P w= .ok (.tuple #[]) w'->(execOp a.eval o).run P w= .ok (.value (.tuple #[])) w':=by intro w' hr;obtain⟨cs,H6⟩:=mZ (P:=P) (a:=a) (w:=w) ho hb;rw[H6,hx,ht];simp only[builtin,DJ,fD,B0];exact ja hr
    have sv:jm E w c (.kl []) (.tuple #[]):=⟨#[],rfl,rfl,λj agg xs hj=>by simp at hj⟩
    have aj:∀A cp,a.eval x= .slice A 0 cp->(execOp a.eval o).run P w= .ok (.value (.tuple #[])) w:=λA cp hv=>exec (by rw[hv];exact C9 hu);have main:∀(n:aF) (ex:aX) (xs:aR) (lo hi:aF) (te:TI),σ (c8 n)= .o (.row el ex xs)->E.ty el=ah te->plain te.ks=ai->w8 (c.P n) lo hi (a.eval x)->gZ P E σ a w c o ([(c8 n, .o (.row el ex (xs.take lo++aP te.ks (hi-lo)++xs.drop hi)))]++dw o (.kl [])):=by
     intro n ex xs lo hi te hg Lk s5 hv;obtain⟨⟨t2,q1,gh,mR⟩,gf,gg⟩:=cf.obj n _ hg;obtain rfl:te=t2:=aJ (Lk.symm.trans q1);obtain⟨v1,v2,v3,v4⟩:=hv;have hle:hi<=xs.length:=by rw[<-gf.n];exact v2
     have zF:=P5 s5;have Ll:(aP te.ks (hi-lo)).length=hi-lo:=by simp[aP]
     by_cases hz:hi-lo=0
     ·have ajo:xs.take lo++aP te.ks (hi-lo)++xs.drop hi=xs:=by
       have:hi=lo:=by omega
       subst this;simp[aP]
      rw[ajo];have hr:(execOp a.eval o).run P w= .ok (.value (.tuple #[])) w:=by
       cases hq:(c.P n).nil with
       |true=>exact aj _ _ (v3 hq)
       |false=>
        rcases v4 hq with ⟨_,h⟩|⟨_,oo,_,h⟩
        ·rw[hz]at h;exact aj _ _ h
        ·exact aj _ _ h
      exact tJ cf dK hd hg (cf.obj n _ hg) (λb hb=>hb) (λzs hz=>by cases hz) sv (λn hn=>by simp[cO]at hn) (λb _ _=>rfl) (cF _) rfl rfl rfl (.inl hr)
     ·have jE:(c.P n).nil=false:=by
       cases hq:(c.P n).nil with
       |false=>rfl
       |true=>have:=(gf.nil hq).1;subst this;simp at hle;omega
      obtain⟨vals,k1,k2,k3,k4,k5⟩:=gf.mem jE;rcases v4 jE with ⟨u1,hv⟩|⟨u1,oo,_,hv⟩
      ·obtain⟨inf,mi,azx,_,_,Kd⟩:=hE.info el te Lk;obtain⟨z,Ea,hz3,_⟩:=Kd zF;have QI:z.cells.size=te.ks.length:=by rw[hz3];simp
       have XL:(c.P n).off+lo*(c.P n).sz+(hi-lo)*z.cells.size<=vals.size:=by rw[QI,<-gh,me,<-dp];have:(lo+(hi-lo))*(c.P n).sz<=(c.P n).cap*(c.P n).sz:=b8 _ (by omega);omega
       have hr:=Qd (P:=P) (w:=w) (ty:=o.type) (of:=(c.P n).off+lo*(c.P n).sz) (n:=hi-lo) (cp:=(c.P n).cap-lo) hu mi Ea (by omega) k1 XL (by rw[hz3];intro u sD;obtain⟨k,vx,rfl⟩:=cW.1 (by simpa using sD:u∈te.ks.map iN);cases k<;>rfl);rw[<-hv]at hr;have wg:wO σ c (c.P n).blk:=⟨n,_,hg, .inl ⟨jE,rfl⟩⟩
       rw[QI,hz3]at hr;have hml:(madeCells (te.ks.map iN).toArray ((hi-lo)*te.ks.length)).toList.length=(hi-lo)*te.ks.length:=by simp[size_madeCells]
       have ae8:(c.P n).off+lo*(c.P n).sz+(madeCells (te.ks.map iN).toArray ((hi-lo)*te.ks.length)).toList.length<=vals.size:=by rw[hml,<-QI];exact XL
       have E_:=k1.setRow (fg ae8);have ai2:=gp ae8;generalize zE:eh vals ((c.P n).off+lo*(c.P n).sz) (madeCells (te.ks.map iN).toArray ((hi-lo)*te.ks.length)).toList=new at hr E_ ai2;have asb:new.size=vals.size:=by rw[<-zE];exact fg ae8
       have rR:∀b,b≠(c.P n).blk->(w.setRow (c.P n).blk new).heap[b]? =w.heap[b]? :=λb hb=>setRow_other w _ b _ hb;have hw:∀b,c.K b->(w.setRow (c.P n).blk new).heap[b]? =w.heap[b]? :=λb hk=>rR b (λe=>by subst e;exact cf.JF wg hk);have sN:∀y∈xs.take lo++aP te.ks (hi-lo)++xs.drop hi,y.map CV.kd=te.ks:=by
        intro y hy;rw[ba,ba]at hy;rcases hy with (hy|hy)|hy
        ·exact mR y (ld hy)
        ·exact yI zF _ y hy
        ·exact mR y (la hy)
       refine tJ cf dK hd hg (ob':= .row el ex (xs.take lo++aP te.ks (hi-lo)++xs.drop hi)) ?_ ?_ (λzs hz=>by cases hz) (w':=w.setRow (c.P n).blk new) ⟨#[],rfl,rfl,λj agg xs hj=>by simp at hj⟩ (λn hn=>by simp[cO]at hn) (λb _ QE=>rR b (λe=>QE (.inl ⟨jE,e⟩))) (by simp[lI]) rfl rfl rfl (.inl (exec hr))
       ·refine⟨⟨te,Lk,gh,sN⟩,⟨?_,λhn=>(by rw[jE]at hn;cases hn),λ_=>⟨new,E_,k2,k3,by rw[asb];exact k4,λi y j x mh hj=> ?_⟩⟩,λ_=>⟨λi j hh=>cJ hh (tX sN s5),λi j i' j' hh=>cJ hh (tX sN s5)⟩⟩
        ·rw[gf.n];simp[aP];omega
        ·have hl:=iw s5 (sN y (aQ mh)) hj;have j8:j<te.ks.length:=by rw[<-sN y (aQ mh),bU];exact(aT.1 hj).1
         have toR:∀u,Sc u x->(if ex=ai then XC E (w.setRow (c.P n).blk new) (c.G n) i j u x else c_ E (w.setRow (c.P n).blk new) c.K u x):=by
          intro u hu;split
          ·exact uQ hl hu
          ·exact kT hl hu
         rw[II v1 hle Ll]at mh;rw[ai2,hml];by_cases hq:lo<=i/\i<hi
         ·rw[bz hq]at mh;obtain⟨ai5,k,hk1,rfl⟩:=uT mh hj;have h2:(i-lo+1)*te.ks.length<=(hi-lo)*te.ks.length:=b8 _ ai5;have h3:i*te.ks.length=lo*te.ks.length+(i-lo)*te.ks.length:=by rw[<-dp];congr 1;omega
          rw[dp]at h2;rw[gh,bz (by omega)];refine⟨iN k, ?_,toR _ ?_⟩
          ·have:=lX (n:=hi-lo) ai5 hk1;rw[cY,<-this];congr 1;omega
          ·have XU:=bu.1 s5 k (aQ hk1);cases k<;>first|exact⟨rfl,trivial⟩|exact⟨rfl,bI _⟩|cases XU
         ·rw[bH hq]at mh;obtain⟨u,sD,D7⟩:=k5 i y j x mh hj;refine⟨u, ?_,toR u ?_⟩
          ·rw[bH ?_];exact sD;rw[gh];by_cases CC:i<lo
           ·have:(i+1)*te.ks.length<=lo*te.ks.length:=b8 _ CC;rw[dp]at this;omega
           ·have:hi*te.ks.length<=i*te.ks.length:=b8 _ (by omega);have h3:hi*te.ks.length=lo*te.ks.length+(hi-lo)*te.ks.length:=by rw[<-dp];congr 1;omega
            omega
          ·split at D7
           ·exact uS D7 hl
           ·exact pD D7 hl
       ·rintro b (hb|⟨_,i,j,hh,_⟩)
        ·exact .inl hb
        ·exact cJ hh (tX sN s5)
      ·omega
    unfold Sv at h2;cases v with
    |nl=>obtain rfl:=aJ h2;exact gJ cf dK hd sv (λn hn=>by simp[cO]at hn) (aj _ _ ev)
    |own n=>
     obtain⟨ob,hg,h2⟩:=Rd.bind_some h2;have hg:=dz hg;cases ob with
     |row e' ex xs=>obtain⟨te,q1,h2⟩:=Rd.bind_some h2;obtain⟨q2,h2⟩:=cR h2;obtain rfl:=aJ h2;simp only[aL]at q2;have:=aU q2.1;subst this;have ev:a.eval x=lW (c.P n):=ev;have:=main n ex xs 0 xs.length te hg (dW q1) q2.2 (by rw[ev];exact wu cf hg);simpa using this
     |_=>simp at h2
    |vw n lo hi=>
     obtain⟨ob,hg,h2⟩:=Rd.bind_some h2;have hg:=dz hg;cases ob with
     |row e' ex xs=>obtain⟨te,q1,h2⟩:=Rd.bind_some h2;obtain⟨q2,h2⟩:=cR h2;obtain rfl:=aJ h2;simp only[aL]at q2;have:=aU q2.1;subst this;exact main n ex xs lo hi te hg (dW q1) q2.2 ev
     |_=>simp at h2
    |_=>simp at h2
   |_=>simp at h
  ·simp at h
 ·simp at h
end
end Go.FG

namespace Go.FG
def kq(D:az (aF×Obj)):az (aF×eT):=D.map λd=>(c8 d.1, .o d.2)
def uV(D:az (aF×Obj))(m:aF):Prop:=∃x,(m,x)∈D
theorem ZZ:∀(D:az (aF×Obj)) (σ:St),(∀m,(wr σ (kq D) (c8 m)=σ (c8 m)/\¬uV D m)\/∃x,(m,x)∈D/\wr σ (kq D) (c8 m)= .o x)/\∀m,slot (wr σ (kq D)) m=slot σ m:=by
 intro D;induction D with
 |nil=>intro σ;exact⟨λm=> .inl ⟨rfl,λ⟨x,hx⟩=>by cases hx⟩,λm=>rfl⟩
 |cons d D ih=>
  intro σ;obtain⟨n,x⟩:=d;obtain⟨h1,h2⟩:=ih (pS σ (c8 n) (.o x));refine⟨λm=> ?_,λm=> ?_⟩
  ·show(wr (pS σ (c8 n) (.o x)) (kq D) (c8 m)=_/\_)\/∃y,_/\wr (pS σ (c8 n) (.o x)) (kq D) (c8 m)=_;rcases h1 m with ⟨q1,q2⟩|⟨y,q1,q2⟩
   ·rw[qd]at q1;by_cases hm:m=n
    ·subst hm;exact .inr ⟨x,by simp,by rw[q1,bz rfl]⟩
    ·refine .inl ⟨by rw[q1,bH hm],λ⟨y,hy⟩=> ?_⟩;rcases cB.1 hy with hy|hy
     ·cases hy;exact hm rfl
     ·exact q2 ⟨y,hy⟩
   ·exact .inr ⟨y,c7 _ q1,q2⟩
  ·show slot (wr (pS σ (c8 n) (.o x)) (kq D)) m=_;rw[h2,jt]
section
variable {P:c5} {E:fQ} {σ:St} {a:Act} {w:bL} {c:e9} {o:fC} {nm:aF} {e:s8}
theorem IG(cf:Ok E σ w c)(dK:fE E σ a w c){o:fC}(hd:∀d,o.dst=ah d->d<a.tmps.size){D:az (aF×Obj)}{s:SV}{v:bk}{w':bL}{c':e9}
  (hA:jI σ c c')
  (m9:∀n x,(n,x)∈D->pU E w' c' n x)
  (pY:∀n x b,(n,x)∈D->fL c' n x b->(ka (uV D) σ c b\/w.heap.size<=b)/\¬c'.K b)
  (S6:∀n x n' x' b,(n,x)∈D->(n',x')∈D->fL c' n x b->fL c' n' x' b->n=n')
  (Ji:∀n xs,(n,Obj.box xs)∈D->∀a∈xs,∀m∈bS a,σ (c8 m)≠ .j9\/uV D m)
  (hK:∀b,c.K b->c'.K b) (Wt:∀b,c'.K b->c.K b\/ka (uV D) σ c b\/w.heap.size<=b) (Ha:∀b,c'.K b->b<w'.heap.size)
  (hW:∀b,b<w.heap.size->¬ka (uV D) σ c b->w'.heap[b]? =w.heap[b]?) (gh:w.heap.size<=w'.heap.size) (PB:w'.os=w.os) (XZ:w'.tape=w.tape) (XT:w'.output=w.output)
  (yN:jm E w' c' s v) (A_:∀n∈cO s,σ (c8 n)≠ .j9\/uV D n):
  Ok E (wr σ (kq D++dw o s)) w' c'/\fE E (wr σ (kq D++dw o s)) (a.put o.dst v) w' c'/\oG σ c w (wr σ (kq D++dw o s)) c' w':=by
 rw[Qn];obtain⟨d1,d2⟩:=ZZ D σ;let σ1:=wr σ (kq D);obtain⟨s1,s2,s3⟩:=sg σ1 o s;have key:∀m,(wr σ1 (dw o s) (c8 m)=σ (c8 m)/\¬uV D m)\/∃x,(m,x)∈D/\wr σ1 (dw o s) (c8 m)= .o x:=λm=>by rw[s3];exact d1 m
 have iB:∀m,(σ (c8 m)≠ .j9\/uV D m)->wr σ1 (dw o s) (c8 m)≠ .j9:=by
  intro m hm;rcases key m with ⟨h1,h2⟩|⟨x,_,h2⟩
  ·rw[h1];exact hm.resolve_right h2
  ·rw[h2];simp
 have get:∀m x,uV D m->wr σ1 (dw o s) (c8 m)= .o x->(m,x)∈D:=by
  intro m x hm hx;rcases key m with ⟨_,h2⟩|⟨y,h1,h2⟩
  ·exact cJ hm h2
  ·rw[h2]at hx;cases hx;exact h1
 have hh:=cf.change (σ':=wr σ1 (dw o s)) (w':=w') (c':=c') (uV D) (λm hm=>(key m).elim (λh=>h.1) (λ⟨x,h1,_⟩=>cJ ⟨x,h1⟩ hm)) (λm hm=>iB m (.inl hm)) hA hW gh hK Wt Ha
  (λm x hm ho=>m9 m x (get m x hm ho)) (λm x b hm ho hf=>pY m x b (get m x hm ho) hf) (λm x m' x' b hm xN ho vA hf vu=>S6 m x m' x' b (get m x hm ho) (get m' x' xN vA) hf vu)
  (λm xs hm ho y hy n kM=>iB n (Ji m xs (get m _ hm ho) y hy n kM)) PB XZ XT
 refine⟨hh.1, ?_,hh.2⟩
 refine dK.change cf hh.2 hA (λm hm=>iB m (.inl hm)) o v (λn kM=>by rw[s1 n kM];exact d2 n) (λd ho=>⟨hd d ho, ?_, ?_⟩)
 ·rw[s2 d ho];exact yN
 ·rw[s2 d ho];intro n kM;exact iB n (A_ n kM)
theorem K5(cf:Ok E σ w c)(dK:fE E σ a w c){o:fC}(hd:∀d,o.dst=ah d->d<a.tmps.size){D:az (aF×Obj)}{s:SV}{v:bk}{w':bL}{c':e9}
  (hA:jI σ c c')
  (m9:∀n x,(n,x)∈D->pU E w' c' n x)
  (pY:∀n x b,(n,x)∈D->fL c' n x b->(ka (uV D) σ c b\/w.heap.size<=b)/\¬c'.K b)
  (S6:∀n x n' x' b,(n,x)∈D->(n',x')∈D->fL c' n x b->fL c' n' x' b->n=n')
  (Ji:∀n xs,(n,Obj.box xs)∈D->∀a∈xs,∀m∈bS a,σ (c8 m)≠ .j9\/uV D m)
  (hK:∀b,c.K b->c'.K b) (Wt:∀b,c'.K b->c.K b\/ka (uV D) σ c b\/w.heap.size<=b) (Ha:∀b,c'.K b->b<w'.heap.size)
  (hW:∀b,b<w.heap.size->¬ka (uV D) σ c b->w'.heap[b]? =w.heap[b]?) (gh:w.heap.size<=w'.heap.size) (PB:w'.os=w.os) (XZ:w'.tape=w.tape) (XT:w'.output=w.output)
  (yN:jm E w' c' s v) (A_:∀n∈cO s,σ (c8 n)≠ .j9\/uV D n)
  (hr:(execOp a.eval o).run P w= .ok (.value v) w'):gZ P E σ a w c o (kq D++dw o s):=by intro K Q hQ;obtain⟨h1,h2,h3⟩:=IG cf dK hd hA m9 pY S6 Ji hK Wt Ha hW gh PB XZ XT yN A_;exact yG hr (hQ v w' c' h1 h2 h3 hA.w)
def BN(σ:St)(c:e9)(m:aC aF)(u:bk):CV->Prop
 | .l e ys=>(m=aj/\ys=[]/\u= .slice aj 0 0)\/∃nm,m=ah nm/\u=lW (c.P nm)/\σ (c8 nm)= .o (.row e ai ys)
 |x=>Sc u x
def EV(L:az aF):az (aF×Obj):=L.map λn=>(n, .dead)
theorem Ci(L:az aF):oA L=kq (EV L):=by unfold oA kq EV;rw[mv];rfl
theorem Xt{k:Ck}{x:AV}{cv:CV}{ws:az (aF×eT)}(h:(IP ai k x).val σ=ah (cv,ws)):
  cv.kd=k/\∃m:aC aF,ws=oA m.toList/\(∀nm,m=ah nm->∃ob,σ (c8 nm)= .o ob)/\∀u,eM E w c x u->BN σ c m u cv:=by
 have pl:plain [k]=ai->cv.kd=k/\∃m:aC aF,ws=oA m.toList/\(∀nm,m=ah nm->∃ob,σ (c8 nm)= .o ob)/\∀u,eM E w c x u->BN σ c m u cv:=by
  intro hp;have kd1:cv.kd=k/\ws=[]:=by
   cases k<;>cases x<;>simp[IP,plain]at h hp<;>first
    |(obtain⟨rfl,rfl⟩:=h;exact⟨rfl,rfl⟩)
    |(split at h<;>simp at h;rename_i hk;subst hk;obtain⟨rfl,rfl⟩:=h;exact⟨rfl,rfl⟩)
  refine⟨kd1.1,aj,kd1.2,λnm h=>(by cases h),λu hu=> ?_⟩
  obtain⟨_,h2,h3,_⟩:=zx hp h hu;cases cv<;>first|exact h2|simp[uH]at h3
 cases k with
 |i=>exact pl rfl
 |b=>exact pl rfl
 |s=>exact pl rfl
 |o=>cases x<;>simp[IP]at h
 |l e=>
  cases x with
  |nl=>obtain⟨rfl,rfl⟩:=bW (aJ h);exact⟨rfl,aj,rfl,λnm h=>(by cases h),λu hu=> .inl ⟨rfl,rfl,hu⟩⟩
  |sh e' xs=>simp[IP]at h
  |own n=>
   obtain⟨ob,hg,h⟩:=Rd.bind_some h;have hg:=dz hg;cases ob with
   |row e' uE xs=>obtain⟨h1,h⟩:=cR h;obtain⟨rfl,rfl⟩:=bW (aJ h);simp only[aL]at h1;have:=aU h1.1;subst this;obtain rfl:=h1.2;exact⟨rfl,ah n,rfl,λnm h=>(by cases h;exact⟨_,hg⟩),λu hu=> .inr ⟨n,rfl,hu,hg⟩⟩
   |fT=>simp at h
   |_=>simp at h
  |_=>simp[IP]at h
theorem SA:∀{ks:az Ck} {xs:az AV} {cs:az CV} {ws:az (aF×eT)} (h:(zy ai ks xs).val σ=ah (cs,ws)),cs.map CV.kd=ks/\xs.length=ks.length/\∃(L:az aF) (M:aF->aC aF),ws=oA L/\
  (∀nm∈L,∃ob,σ (c8 nm)= .o ob)/\(∀j nm,M j=ah nm->nm∈L)/\(L.Nodup->∀i j nm,M i=ah nm->M j=ah nm->i=j)/\
  ∀(vals:du bk),fZ E w c vals xs->∀(q:aF) (x:CV),cs[q]? =ah x->∃u:bk,vals[q]? =ah u/\BN σ c (M q) u x:=by
 intro ks;induction ks with
 |nil=>
  intro xs cs ws h;cases xs with
  |nil=>obtain⟨rfl,rfl⟩:=bW (aJ h);exact⟨rfl,rfl,[],λ_=>aj,rfl,λnm h=>(by cases h),λj nm h=>(by cases h),λ_ i j nm h=>(by cases h),λ_ _ q x hq=>by simp at hq⟩
  |cons=>simp[zy]at h
 |cons k ks ih=>
  intro xs cs ws h;cases xs with
  |nil=>simp[zy]at h
  |cons x xs=>
   obtain⟨⟨cv,w1⟩,h1,h⟩:=Rd.bind_some h;obtain⟨⟨cr,w2⟩,h2,h⟩:=Rd.bind_some h;obtain⟨rfl,rfl⟩:=bW (aJ h);obtain⟨e1,m,rfl,e2,e3⟩:=Xt (E:=E) (w:=w) (c:=c) h1;obtain⟨i1,i2,L,M,rfl,i4,i5,i6,i7⟩:=ih h2;refine⟨by simp[e1,i1],by simp[i2],m.toList++L,λj=>match j with|0=>m|j+1=>M j,by simp[oA], ?_, ?_, ?_, ?_⟩
   ·intro nm hnm;rcases ba.1 hnm with h|h
    ·exact e2 nm (by simpa using h)
    ·exact i4 nm h
   ·intro j nm hj;cases j with
    |zero=>exact bM _ (by simpa using hj)
    |succ j=>exact bN _ (i5 j nm hj)
   ·intro Jk i j nm hi hj;obtain⟨n1,n2,n3⟩:=eQ.1 Jk;cases i with
    |zero=>
     cases j with
     |zero=>rfl
     |succ j=>exact cJ rfl (n3 nm (by simpa using hi) nm (i5 j nm hj))
    |succ i=>
     cases j with
     |zero=>exact cJ rfl (n3 nm (by simpa using hj) nm (i5 i nm hi))
     |succ j=>rw[i6 n2 i j nm hi hj]
   ·intro vals hv q y hq;cases q with
    |zero=>cases hq;obtain⟨u,hu,ha⟩:=hv.2 0 x rfl;exact⟨u,hu,e3 u ha⟩
    |succ q=>
     have ND:fZ E w c (vals.extract 1 vals.size) xs:=by
      refine⟨by simp;have:=hv.1;simp at this;omega,λj b hj=> ?_⟩
      obtain⟨u,hu,hb⟩:=hv.2 (j+1) b hj;refine⟨u, ?_,hb⟩
      have:=(dU.1 hu).1;rw[ea,bz (by omega),jc];exact hu
     obtain⟨u,r1,r2⟩:=i7 _ ND q y hq;refine⟨u, ?_,r2⟩
     rw[ea]at r1;split at r1
     ·rw[jc];exact r1
     ·cases r1
theorem KR{k:Ck}{x:AV}{cv:CV}{ws:az (aF×eT)}(cf:Ok E σ w c)(h:(IP ak k x).val σ=ah (cv,ws)):cv.kd=k/\ws=[]/\∀u,eM E w c x u->c_ E w c.K u cv:=by
 have pl:plain [k]=ai->cv.kd=k/\ws=[]/\∀u,eM E w c x u->c_ E w c.K u cv:=by
  intro hp;have kd1:cv.kd=k/\ws=[]:=by
   cases k<;>cases x<;>simp[IP,plain]at h hp<;>first
    |(obtain⟨rfl,rfl⟩:=h;exact⟨rfl,rfl⟩)
    |(split at h<;>simp at h;rename_i hk;subst hk;obtain⟨rfl,rfl⟩:=h;exact⟨rfl,rfl⟩)
  refine⟨kd1.1,kd1.2,λu hu=> ?_⟩
  obtain⟨_,h2,h3,_⟩:=zx hp h hu;exact kT h3 h2
 cases k with
 |i=>exact pl rfl
 |b=>exact pl rfl
 |s=>exact pl rfl
 |o=>cases x<;>simp[IP]at h
 |l e=>
  cases x with
  |nl=>obtain⟨rfl,rfl⟩:=bW (aJ h);exact⟨rfl,rfl,λu hu=>by rw[show u=_ from hu];exact .nl _ _ _⟩
  |sh e' xs=>obtain⟨h1,h⟩:=cR h;obtain⟨rfl,rfl⟩:=bW (aJ h);simp only[aL]at h1;have:=aU h1.1;subst this;exact⟨rfl,rfl,λu hu=>hu⟩
  |own n=>
   obtain⟨ob,hg,h⟩:=Rd.bind_some h;have hg:=dz hg;cases ob with
   |row e' uE xs=>obtain⟨h1,h⟩:=cR h;simp at h
   |fT e' xs=>
    obtain⟨h1,h⟩:=cR h;obtain⟨rfl,rfl⟩:=bW (aJ h);simp only[aL]at h1;have:=aU h1.1;subst this;refine⟨rfl,rfl,λu hu=> ?_⟩
    have hu:u=lW (c.P n):=hu;rw[hu];exact(cf.obj n _ hg).1
   |_=>simp at h
  |_=>simp[IP]at h
theorem IQ(cf:Ok E σ w c):∀{ks:az Ck} {xs:az AV} {cs:az CV} {ws:az (aF×eT)} (h:(zy ak ks xs).val σ=ah (cs,ws)),cs.map CV.kd=ks/\xs.length=ks.length/\ws=[]/\
  ∀(vals:du bk),fZ E w c vals xs->∀(q:aF) (x:CV),cs[q]? =ah x->∃u:bk,vals[q]? =ah u/\c_ E w c.K u x:=by
 intro ks;induction ks with
 |nil=>
  intro xs cs ws h;cases xs with
  |nil=>obtain⟨rfl,rfl⟩:=bW (aJ h);exact⟨rfl,rfl,rfl,λ_ _ q x hq=>by simp at hq⟩
  |cons=>simp[zy]at h
 |cons k ks ih=>
  intro xs cs ws h;cases xs with
  |nil=>simp[zy]at h
  |cons x xs=>
   obtain⟨⟨cv,w1⟩,h1,h⟩:=Rd.bind_some h;obtain⟨⟨cr,w2⟩,h2,h⟩:=Rd.bind_some h;obtain⟨rfl,rfl⟩:=bW (aJ h);obtain⟨e1,e2,e3⟩:=KR cf h1;obtain⟨i1,i2,i3,i7⟩:=ih h2;refine⟨by simp[e1,i1],by simp[i2],by rw[e2,i3];rfl,λvals hv q y hq=> ?_⟩
   cases q with
   |zero=>cases hq;obtain⟨u,hu,ha⟩:=hv.2 0 x rfl;exact⟨u,hu,e3 u ha⟩
   |succ q=>
    have ND:fZ E w c (vals.extract 1 vals.size) xs:=by
     refine⟨by simp;have:=hv.1;simp at this;omega,λj b hj=> ?_⟩
     obtain⟨u,hu,hb⟩:=hv.2 (j+1) b hj;refine⟨u, ?_,hb⟩
     have:=(dU.1 hu).1;rw[ea,bz (by omega),jc];exact hu
    obtain⟨u,r1,r2⟩:=i7 _ ND q y hq;refine⟨u, ?_,r2⟩
    rw[ea]at r1;split at r1
    ·rw[jc];exact r1
    ·cases r1
end
end Go.FG

namespace Go.FG
section
variable {P:c5} {E:fQ} {σ:St} {a:Act} {w:bL} {c:e9} {o:fC} {nm:aF} {e:s8}
structure Inv (E:fQ) (σ:St) (w:bL) (c:e9) (ex:aX) (ks:az Ck) (vals:du bk) (z:aR) (N:aF->aF->aC aF) (S:az aF):Prop where
 size:vals.size=z.length*ks.length
 sh:∀y∈z,y.map CV.kd=ks
 inS:∀i j nm,N i j=ah nm->nm∈S
 inj:∀i j i' j' nm,N i j=ah nm->N i' j'=ah nm->i=i'/\j=j'
 cell:∀(i:aF) (y:az CV) (j:aF) (x:CV),z[i]? =ah y->y[j]? =ah x->∃u:bk,vals[i*ks.length+j]? =ah u/\(if ex=ai then BN σ c (N i j) u x else c_ E w c.K u x)
theorem Inv.set{ex:aX}{ks:az Ck}{vals:du bk}{z:aR}{N:aF->aF->aC aF}{S:az aF}(h:Inv E σ w c ex ks vals z N S){i0:aF}(hi:i0<z.length){cs:az CV}{vs:du bk}(hk:cs.map CV.kd=ks)(S9:vs.size=ks.length)
  {M:aF->aC aF} {L:az aF} (hM:∀j nm,M j=ah nm->nm∈L) (hMi:∀i j nm,M i=ah nm->M j=ah nm->i=j) (hd:∀nm∈L,nm∉S)
  (hc:∀(q:aF) (x:CV),cs[q]? =ah x->∃u:bk,vs[q]? =ah u/\(if ex=ai then BN σ c (M q) u x else c_ E w c.K u x)):
  Inv E σ w c ex ks (eh vals (i0*ks.length) vs.toList) (z.set i0 cs) (λi j=>if i=i0 then M j else N i j) (S++L):=by
 have h1:(i0+1)*ks.length<=z.length*ks.length:=b8 _ hi;rw[dp]at h1;have hb:i0*ks.length+vs.toList.length<=vals.size:=by rw[h.size,show vs.toList.length=ks.length from S9];omega
 refine⟨by rw[fg hb,cD];exact h.size, ?_, ?_, ?_, ?_⟩
 ·intro y hy;rcases jL hy with hy|hy
  ·exact h.sh y hy
  ·rw[hy];exact hk
 ·intro i j nm hn;replace hn:(if i=i0 then M j else N i j)=ah nm:=hn;split at hn
  ·exact bN _ (hM j nm hn)
  ·exact bM _ (h.inS i j nm hn)
 ·intro i j i' j' nm hn kM;replace hn:(if i=i0 then M j else N i j)=ah nm:=hn;replace kM:(if i'=i0 then M j' else N i' j')=ah nm:=kM;split at hn
  ·rename_i e1;split at kM
   ·rename_i e2;exact⟨e1.trans e2.symm,hMi j j' nm hn kM⟩
   ·exact cJ (h.inS i' j' nm kM) (hd nm (hM j nm hn))
  ·split at kM
   ·exact cJ (h.inS i j nm hn) (hd nm (hM j' nm kM))
   ·exact h.inj i j i' j' nm hn kM
 ·intro i y j x hy hx;rw[Qs]at hy;rw[gp hb,show vs.toList.length=ks.length from S9];by_cases Jg:i0=i
  ·subst Jg;rw[bz rfl,bz hi]at hy;cases hy;have hj:j<ks.length:=by rw[<-hk,bU];exact(aT.1 hx).1
   obtain⟨u,hu,hr⟩:=hc j x hx;refine⟨u, ?_,by simpa using hr⟩
   rw[bz (by omega),cY,<-hu];congr 1;omega
  ·rw[bH Jg]at hy;obtain⟨u,hu,hr⟩:=h.cell i y j x hy hx;have hj:j<ks.length:=by rw[<-h.sh y (aQ hy),bU];exact(aT.1 hx).1
   refine⟨u, ?_,by rw[show(if i=i0 then M j else N i j)=N i j from bH (λe=>Jg e.symm)];exact hr⟩
   rw[bH ?_];exact hu;rcases Qv Jg with jD|hgt
   ·have:(i0+1)*ks.length<=i*ks.length:=b8 _ jD;rw[dp]at this;omega
   ·have:(i+1)*ks.length<=i0*ks.length:=b8 _ hgt;rw[dp]at this;omega
theorem O8(cf:Ok E σ w c)(dK:fE E σ a w c){ex:aX}{ks:az Ck}(ll:0<ks.length):∀(ps:az (aF×dy)) (z z':aR) (ws:az (aF×eT)),(KQ ex ks ps z).val σ=ah (z',ws)->
  z'.length=z.length/\∃L,ws=oA L/\(∀nm∈L,∃ob,σ (c8 nm)= .o ob)/\∀vals N S,(S++L).Nodup->Inv E σ w c ex ks vals z N S->
   ∃je N',pK (λi=>ah (i*ks.length,ks.length)) vals (ps.map λ(i,x)=>(i,a.eval x))=ah je/\Inv E σ w c ex ks je z' N' (S++L):=by
 intro ps;induction ps with
 |nil=>intro z z' ws h;obtain⟨rfl,rfl⟩:=bW (aJ h);exact⟨rfl,[],rfl,λnm h=>(by cases h),λvals N S _ hi=>⟨vals,N,rfl,by rw[dn];exact hi⟩⟩
 |cons p r ih=>
  obtain⟨i0,x⟩:=p;intro z z' ws h;obtain⟨v,h1,h⟩:=Rd.bind_some h;obtain⟨PC,hkv⟩:=mB dK h1;cases v with
  |v g ys=>
   obtain⟨h2,h⟩:=cR h;have h2:=cM h2;obtain⟨⟨cs,w1⟩,h3,h⟩:=Rd.bind_some h;obtain⟨⟨z1,w2⟩,h4,h⟩:=Rd.bind_some h;obtain⟨rfl,rfl⟩:=bW (aJ h);have oe:=qq.cells PC
   have IP:cs.map CV.kd=ks/\ys.length=ks.length/\∃(L:az aF) (M:aF->aC aF),w1=oA L/\(∀nm∈L,∃ob,σ (c8 nm)= .o ob)/\(∀j nm,M j=ah nm->nm∈L)/\(L.Nodup->∀i j nm,M i=ah nm->M j=ah nm->i=j)/\
     ∀(q:aF) (x:CV),cs[q]? =ah x->∃u:bk,(a.eval ‹dy›).cells[q]? =ah u/\(if ex=ai then BN σ c (M q) u x else c_ E w c.K u x):=by
    cases ex with
    |true=>obtain⟨q1,q2,L,M,q3,q4,q5,q6,q7⟩:=SA (E:=E) (w:=w) (c:=c) h3;exact⟨q1,q2,L,M,q3,q4,q5,q6,λq x hq=>by simpa using q7 _ oe q x hq⟩
    |false=>obtain⟨q1,q2,q3,q4⟩:=IQ cf h3;exact⟨q1,q2,[],λ_=>aj,q3,λnm h=>(by cases h),λj nm h=>(by cases h),λ_ i j nm h=>(by cases h),λq x hq=>by simpa using q4 _ oe q x hq⟩
   obtain⟨q1,q2,L,M,rfl,q4,q5,q6,q7⟩:=IP;obtain⟨i1,L2,rfl,i3,i4⟩:=ih _ _ _ h4;rw[cD]at i1;refine⟨i1,L++L2,by simp[oA],λnm hn=>(ba.1 hn).elim (q4 nm) (i3 nm),λvals N S Jk hinv=> ?_⟩
   have ajd:((S++L)++L2).Nodup:=by rw[cz];exact Jk
   obtain⟨n1,n2,n3⟩:=eQ.1 ajd;obtain⟨m1,m2,m3⟩:=eQ.1 n1;have S9:(a.eval x).cells.size=ks.length:=by rw[oe.1,q2]
   have ai7:=hinv.set (i0:=i0) (by omega) q1 S9 q5 (q6 m2) (λnm hn hs=>m3 nm hs nm hn rfl) q7;obtain⟨je,N',f1,f2⟩:=i4 _ _ _ ajd ai7;refine⟨je,N', ?_,by rw[<-cz];exact f2⟩
   have h1:(i0+1)*ks.length<=z.length*ks.length:=b8 _ h2;rw[dp,<-hinv.size]at h1;simp only[fD,pK];rw[bH (by simp[S9];omega)];have:=E2 (off:=i0*ks.length) (vs:=(a.eval x).cells) (cells:=vals) (by omega);rw[<-f1];exact lO (λq=>pK (λi=>ah (i*ks.length,ks.length)) q _) this
  |kl=>simp at h
  |un=>simp at h
theorem C8{t el n:aF}{inf:Kr}{z:bk}{ks:az Ck}{ps:du (aF×bk)}{cells:du bk}(hu:P.underlying t=ah (.slice el))(hi:P.info? el=ah inf)(gh:inf.size=ks.length)(hz:inf.zero=ah z)(hzc:z.cells=(ks.map iN).toArray)
  (h24:n*ks.length<=16777216) (hf:pK (λi=>ah (i*ks.length,ks.length)) (madeCells (ks.map iN).toArray (n*ks.length)) ps.toList=ah cells):
  (Ad t n ps).run P w= .ok (.slice (ah (ad w.heap.size 0)) n n) (w.alloc (.cells cells el)):=by
 have arv:¬(n*ks.length>2^24):=by omega
 by_cases h0:n*ks.length=0
 ·have e0:(Array.range (n*ks.length)).map (λi=>(#[]:du bk)[i%(#[]:du bk).size]!)=madeCells (ks.map iN).toArray (n*ks.length):=by rw[h0];simp[madeCells,Array.range_zero']
  simp only[Ad,cj,run_underlying hu,bG,sizeOf,typeInfo,program,nB,hi,gh,cT,h0,if_true,nr];rw[h0]at e0 hf;rw[e0,hf];simp only[newRow,newObj,cj,nB,bG,cT];rfl
 ·have e0:(Array.range (n*ks.length)).map (λi=>z.cells[i%z.cells.size]!)=madeCells (ks.map iN).toArray (n*ks.length):=by rw[hzc];rfl
  simp only[Ad,cj,run_underlying hu,bG,sizeOf,typeInfo,program,nB,hi,gh,arv,if_false,cT,h0,zeroValue,hz,nr];rw[e0,hf];simp only[newRow,newObj,cj,nB,bG,cT];rfl
theorem qS:∀{l:az aF},tT l=ai->l.Nodup
 |[],_=> .nil
 |n::r,h=>by
  simp only[tT,aL,dr]at h;refine lh.2 ⟨λhm=> ?_,qS h.2⟩;have:mO n r=true:=by
   have:=h.1;clear h;induction r with
   |nil=>cases hm
   |cons m r ih=>
    rcases cB.1 hm with rfl|hm
    ·simp[mO]
    ·simp only[mO,iJ]at this⊢;rw[ih hm this.2];simp
  rw[this]at h;cases h.1
theorem rX{α β:Type}{f:α->β}:∀{l:az α},(l.map f).Nodup->l.Nodup
 |[],_=> .nil
 |x::l,h=>by
  rw[fD,lh]at h;exact lh.2 ⟨λhm=>h.1 (cW.2 ⟨x,hm,rfl⟩),rX h.2⟩
theorem XE{ks:az Ck}(hf:flat E ks=ai){e:aF}(hm:Ck.l e∈ks):∃t,E.ty e=ah t/\plain t.ks=true:=by
 have h:=bu.1 hf _ hm;replace h:(match E.ty e with|some ti=>plain ti.ks|none=>ak)=true:=h;cases ht:E.ty e with
 |none=>rw[ht]at h;cases h
 |some t=>rw[ht]at h;exact⟨t,rfl,h⟩
theorem Qa(cf:Ok E σ w c){n e:aF}{ex:aX}{xs:aR}(hg:σ (c8 n)= .o (.row e ex xs)){t:TI}(ht:E.ty e=ah t)(hp:plain t.ks=ai):
  (c.P n).sz=t.ks.length/\(∀y∈xs,y.map CV.kd=t.ks)/\jl w (c.P n) xs (λ_ _ u x=>Sc u x):=by
 obtain⟨⟨t2,q1,q2,q3⟩,q4,_⟩:=cf.obj n _ hg;obtain rfl:t=t2:=aJ (ht.symm.trans q1);refine⟨q2,q3,q4.frame (λ_=>rfl) (λi j y x u hi hj hr=> ?_)⟩
 have hl:=iw hp (q3 y (aQ hi)) hj;split at hr
 ·exact uS hr hl
 ·exact pD hr hl
theorem Sr(cf:Ok E σ w c){ks:az Ck}(hf:flat E ks=ai){m:aC aF}{G:aF->aF->Pl}{i j:aF}(hG:G i j=match m with|some n=>c.P n|none=>Ly E ks i j){u:bk}{x:CV}(hx:ks[j]? =ah x.kd){w':bL}(hw:∀b,b<w.heap.size->(∃n,m=ah n/\b=(c.P n).blk)->w'.heap[b]? =w.heap[b]?)(h:BN σ c m u x):XC E w' G i j u x:=by
 cases x with
 |l e ys=>
  obtain⟨t,ht,hp⟩:=XE hf (aQ hx);rcases h with ⟨rfl,rfl,rfl⟩|⟨n,rfl,rfl,hg⟩
  ·refine⟨by rw[hG];rfl,t,ht,hp, ?_,λy hy=>(by cases hy),⟨by rw[hG];rfl,λ_=>⟨rfl,by rw[hG];rfl⟩,λhn=>by rw[hG]at hn;cases hn⟩⟩
   rw[hG];show(match ks[j]? with|some (.l e)=>(match E.ty e with|some t=>t.ks.length|none=>0)|_=>0)=_;rw[hx];simp only[CV.kd,ht]
  ·obtain⟨q1,q2,q3⟩:=Qa cf hg ht hp;refine⟨by rw[hG],t,ht,hp,by rw[hG];exact q1,q2, ?_⟩
   rw[hG];refine q3.frame (λhn=>hw _ (wO.lt cf ⟨n,_,hg, .inl ⟨hn,rfl⟩⟩) ⟨n,rfl,rfl⟩) (λ_ _ _ _ _ _ _ h=>h)
 |i=>exact h
 |b=>exact h
 |s=>exact h
theorem Ed(hE:eH P E)(cf:Ok E σ w c)(dK:fE E σ a w c)(hd:∀d,o.dst=ah d->d<a.tmps.size){t n:aF}{ps:du (aF×dy)}(ho:o.op= .buildSlice t n ps)(h:(ml E nm o).val σ=ah e)(hc:e.cond=ai):gZ P E σ a w c o e.ws:=by
 simp only[ml,ho]at h;obtain⟨ti,h1,h⟩:=Rd.bind_some h;have h1:=dW h1;split at h
 ·rename_i el uG A_;obtain⟨te,h2,h⟩:=Rd.bind_some h;have h2:=dW h2;obtain⟨zF,h⟩:=cR h;obtain⟨ex0,_,h⟩:=Rd.bind_some h;obtain⟨⟨xs,ws⟩,h3,h⟩:=Rd.bind_some h;obtain⟨u,h4,h⟩:=Rd.bind_some h;obtain⟨hf,jD⟩:=kL h4;obtain rfl:=aJ h;simp only[aL]at hc;obtain⟨h24,Jk⟩:=hc;have h24:=cM h24;have hu:=pr hE h1 uG A_;obtain⟨inf,hi,gh,_,ll,hz⟩:=hE.info el te h2;obtain⟨z,Kd,Ea,_⟩:=hz zF;have Pt:(ex0&&flat E te.ks)=ai->flat E te.ks=true:=λh=>by simp only[aL]at h;exact h.2
  generalize (ex0&&flat E te.ks)=ex at h3 Pt⊢;obtain⟨hlen,L,rfl,hL,S5⟩:=O8 (c:=c) cf dK ll ps.toList _ _ _ h3;have Jk:L.Nodup:=by have:=qS Jk;unfold oA at this;rw[mv]at this;exact rX this
  obtain⟨vals,N,aiZ,hinv⟩:=S5 (madeCells (te.ks.map iN).toArray (n*te.ks.length)) (λ_ _=>aj) [] (by simpa using Jk)
   ⟨by rw[size_madeCells];simp[aP],yI zF n,λi j nm h=>(by cases h),λi j i' j' nm h=>(by cases h),λi y j x hy hx=>by
    obtain⟨gg,k,hk,rfl⟩:=uT hy hx;refine⟨iN k,lX gg hk, ?_⟩
    have hko:=bu.1 zF k (aQ hk);split
    ·cases k with
     |l e=>exact .inl ⟨rfl,rfl,rfl⟩
     |o=>cases hko
     |s=>exact⟨rfl,bI _⟩
     |_=>exact⟨rfl,trivial⟩
    ·exact Mk hko⟩
  rw[gC]at hinv;have hr:=C8 (P:=P) (w:=w) (n:=n) (ps:=ps.map λ(i,x)=>(i,a.eval x)) hu hi gh Kd Ea h24 (by rw[AD];exact aiZ);have Ll:xs.length=n:=by rw[hlen];simp[aP]
  let g:aF->aF->Pl:=λi j=>match N i j with|some m=>c.P m|none=>Ly E te.ks i j
  let c':e9:=⟨λm=>if m=nm then⟨ak,w.heap.size,0,n,n,te.ks.length⟩else c.P m,λm=>if m=nm then g else c.G m,c.K⟩
  have hP:c'.P nm=⟨ak,w.heap.size,0,n,n,te.ks.length⟩:=bz rfl;have hG:c'.G nm=g:=bz rfl;have hA:jI σ c c':=λm hm=>by
   have:m≠nm:=by rintro rfl;rcases hm with h|h;exact h hf;omega
   exact⟨bH this,bH this⟩
  have gN:∀i j,(g i j).nil=ak->∃m ob,N i j=ah m/\g i j=c.P m/\m∈L/\σ (c8 m)= .o ob:=by
   intro i j hn;cases hm:N i j with
   |none=>simp only[g,hm]at hn;cases hn
   |some m=>obtain⟨ob,m9⟩:=hL m (hinv.inS i j m hm);exact⟨m,ob,rfl,by simp only[g,hm],hinv.inS i j m hm,m9⟩
  have inn:∀i j,ex=ai->gj xs i j->(g i j).nil=ak->∃m el2 ys,N i j=ah m/\g i j=c.P m/\m∈L/\σ (c8 m)= .o (.row el2 ai ys)/\(c.P m).nil=false:=by
   rintro i j hex ⟨y,x,hy,hx,hl⟩ hn;obtain⟨m,ob,q1,q2,q3,q4⟩:=gN i j hn;obtain⟨u,_,hr⟩:=hinv.cell i y j x hy hx;rw[bz hex,q1]at hr;cases x with
   |l e2 ys=>
    rcases hr with ⟨h,_⟩|⟨m',h,_,hg⟩
    ·cases h
    ·cases h;exact⟨m,e2,ys,q1,q2,q3,hg,by rw[<-q2];exact hn⟩
   |i=>simp[uH]at hl
   |b=>simp[uH]at hl
   |s=>simp[uH]at hl
  have S_:∀b,b<w.heap.size->(w.alloc (.cells vals el)).heap[b]? =w.heap[b]? :=λb hb=>heap_alloc_old w _ b hb;have mem:∀m x,(m,x)∈EV L++[(nm,Obj.row el ex xs)]->(m∈L/\x= .dead)\/(m=nm/\x= .row el ex xs):=by
   intro m x hm;rcases ba.1 hm with hm|hm
   ·unfold EV at hm;obtain⟨q,hq,h⟩:=cW.1 hm;cases h;exact .inl ⟨hq,rfl⟩
   ·rw[aZ]at hm;cases hm;exact .inr ⟨rfl,rfl⟩
  have hws:oA L++(c8 nm,eT.o (.row el ex xs))::dw o (.v ak [.own nm])=kq (EV L++[(nm,Obj.row el ex xs)])++dw o (.v ak [.own nm]):=by rw[Ci];unfold kq;simp
  show gZ P E σ a w c o (oA L++(c8 nm,eT.o (.row el ex xs))::dw o (.v ak [.own nm]));rw[hws];refine K5 cf dK hd (c':=c') (w':=w.alloc (.cells vals el)) (v:= .slice (ah (ad w.heap.size 0)) n n) hA ?_ ?_ ?_ ?_ (λ_ h=>h) (λ_ h=> .inl h) (λb hb=>jy (cf.lt b hb) (by simp)) (λb hb _=>S_ b hb) (by simp) rfl rfl rfl ?_ ?_ ?_
  ·intro m x hm;rcases mem m x hm with ⟨_,rfl⟩|⟨rfl,rfl⟩
   ·trivial
   ·refine⟨⟨te,h2,by rw[hP],hinv.sh⟩, ?_,λhex=> ?_⟩
    ·rw[hP,hG];refine⟨Ll.symm,λhn=>(by cases hn),λ_=>⟨vals,n8.alloc w _ el,cF _, ?_, ?_,λi y j x hy hx=> ?_⟩⟩
     ·show n<=2^63-1;have:n*1<=n*te.ks.length:=Nat.mul_le_mul_left _ ll;omega
     ·rw[hinv.size,Ll];simp
     ·obtain⟨u,sD,D7⟩:=hinv.cell i y j x hy hx;refine⟨u,by simpa using sD, ?_⟩
      split at D7
      ·rename_i hex;rw[bz hex];refine Sr cf (Pt hex) rfl ?_ (λb hb _=>S_ b hb) D7;rw[<-hinv.sh y (aQ hy),bK,hx];rfl
      ·rename_i hex;rw[bH hex];exact D7.frame (λb hb=>S_ b (cf.lt b hb)) (λ_ h=>h)
    ·rw[hP,hG];refine⟨λi j hh hn _=> ?_,λi j i' j' hh A7 hn kM hbk=> ?_⟩
     ·obtain⟨m',e2,ys,_,q2,_,q4,q5⟩:=inn i j hex hh hn;have:(c.P m').blk<w.heap.size:=wO.lt cf ⟨m',_,q4, .inl ⟨q5,rfl⟩⟩;rw[q2];show(c.P m').blk≠w.heap.size;omega
     ·obtain⟨m1,e1,y1,p1,p2,_,p4,p5⟩:=inn i j hex hh hn;obtain⟨m2,e2,y2,r1,r2,_,r4,r5⟩:=inn i' j' hex A7 kM;rw[p2,r2]at hbk;have:=cf.sep m1 _ m2 _ _ p4 r4 (.inl ⟨p5,rfl⟩) (.inl ⟨r5,hbk⟩);subst this;exact hinv.inj i j i' j' m1 p1 r1
  ·intro m x b hm pY;rcases mem m x hm with ⟨_,rfl⟩|⟨rfl,rfl⟩
   ·exact pY.elim
   ·rcases pY with ⟨_,rfl⟩|⟨hex,i,j,hh,hn,rfl⟩
    ·rw[hP];exact⟨.inr (cF _),λhk=>by have:=cf.lt _ hk;exact cJ this (bm _)⟩
    ·rw[hG]at hn⊢;obtain⟨m',e2,ys,_,q2,q3,q4,q5⟩:=inn i j hex hh hn;rw[q2];refine⟨.inl ⟨m',_,⟨.dead,bM _ (cW.2 ⟨m',q3,rfl⟩)⟩,q4, .inl ⟨q5,rfl⟩⟩,cf.kk m' _ _ q4 (.inl ⟨q5,rfl⟩)⟩
  ·intro m x m' x' b hm xN pY SX;rcases mem m x hm with ⟨_,rfl⟩|⟨rfl,rfl⟩
   ·exact pY.elim
   ·rcases mem m' x' xN with ⟨_,rfl⟩|⟨rfl,rfl⟩
    ·exact SX.elim
    ·rfl
  ·intro m zs hm;rcases mem m _ hm with ⟨_,h⟩|⟨_,h⟩<;>cases h
  ·show _=lW (c'.P nm);rw[hP];rfl
  ·intro m hm;have:m=nm:=by simpa [cO,bS]using hm
   subst this;exact .inr ⟨_,bN _ (aZ.2 rfl)⟩
  ·unfold execOp;rw[ho];exact ja hr
 ·simp at h
end
end Go.FG

namespace Go.FG
section
variable {P:c5}
def mf(elem:TypeId)(size:aF)(base:aC Addr)(sLen sCap:aF)(s x:bk)(aP:aX)(n:aF)(Is:Sem (du bk)):Sem bk:=
 if sLen+n<=sCap then do
  let new<-Is
  if let ah a:=base then storeCells (a.add (sLen*size)) new.toList
  pure (.slice base (sLen+n) sCap)
 else do
  if((sLen+n:aF):aw)>ao.max/\(aP\/(<-typeInfo elem).bytes=0)then runtimePanic (.error "growslice: len out of range")
  if HW (sLen+n) sCap*(<-typeInfo elem).bytes>2^48 then(if aP then runtimePanic (.error "growslice: len out of range")else do
   if !(<-Builtin.mayShare size sLen n base x)then mark .noRoom
   unsupported (.resourceLimit "append: a slice or a string whose bytes no memory bears"))
  let Lx<-choose (.appendCap (sLen+n) sCap elem)
  askRoom (Lx*(<-typeInfo elem).bytes)
  let old<-fB size sLen s
  let new<-Is
  let rest:=fN (<-zeroValue elem).cells (Lx-(sLen+n))
  pure (.slice (ah (<-newRow elem (old++new++rest))) (sLen+n) Lx)
theorem zS{w:bL}{t u ty el:aF}{inf:Kr}(hu:P.underlying t=ah (.slice el))(hi:P.info? el=ah inf)(hd:(∃e',P.underlying u=ah (.slice e'))\/P.underlying u=ah .string)
  {base:aC Addr} {sLen sCap m:aF} {x:bk} (hl:(pJ x).run P w= .ok m w):
  (iy #[t,u] ty #[.slice base sLen sCap,x]).run P w=(mf el inf.size base sLen sCap (.slice base sLen sCap) x ak m (fB inf.size m x)).run P w:=by
 have hs:(sizeOf el).run P w= .ok inf.size w:=by simp[sizeOf,typeInfo,hi]
 rcases hd with ⟨e',hd⟩|hd<;>
  (simp only[iy,ik,sI,dO,cj,run_underlying hu,run_underlying hd,bG,hs,cT,hl,dx,if_false,bR,if_true,false_or,nr]
   unfold mf
   simp only[nr,cj,dx,if_false,false_or,cT]
   try rfl)
theorem C6{w:bL}{t u ty el:aF}{inf:Kr}(hu:P.underlying t=ah (.slice el))(hi:P.info? el=ah inf){k:nA}(hd:P.underlying u=ah (.int k))
  {base:aC Addr} {sLen sCap m:aF} {x:bk} {k':nA} (hx:x= .int k' (m:aw)) (h1:m<=9223372036854775807) (h2:m*inf.bytes<=140737488355328):
  (iy #[t,u] ty #[.slice base sLen sCap,x]).run P w=(mf el inf.size base sLen sCap (.slice base sLen sCap) x ai m (if m*inf.size=0 then pure #[]else do pure (fN (<-zeroValue el).cells m))).run P w:=by
 have hs:(sizeOf el).run P w= .ok inf.size w:=by simp[sizeOf,typeInfo,hi]
 have ht:∀W,(typeInfo el).run P W= .ok inf W:=λW=>by simp[typeInfo,hi]
 have hw:ao.wrap (m:aw)=m:=by rw[qj];omega
 have c1:¬((m:aw)<0):=by omega
 have c2:¬((m:aw)*(inf.bytes:aw)>2^48):=by
  have a2:((m*inf.bytes:aF):aw)<=140737488355328:=by generalize m*inf.bytes=q at h2;omega
  rw[W4]at a2;generalize (m:aw)*(inf.bytes:aw)=q at a2;have:(2:aw)^48=281474976710656:=by decide
  omega
 subst hx;have ha:(asInt (.int k' (m:aw))).run P w= .ok (m:aw) w:=by simp[asInt,asIntOf]
 simp only[iy,ik,sI,dO,cj,run_underlying hu,run_underlying hd,bG,hs,ht,ha,hw,c1,c2,cT,if_false,a_,dx,if_true,nr,dG];unfold mf;simp only[nr,cj,if_true,true_or,and_true,cT,ht,bG];try rfl
theorem Ej{w w':bL}{el size sLen sCap m:aF}{a:Addr}{s x:bk}{zs:aX}{app:Sem (du bk)}{news:az bk}(ha:app.run P w= .ok news.toArray w)(h:sLen+m<=sCap)(Li:(storeCells (a.add (sLen*size)) news).run P w= .ok () w'):
  (mf el size (ah a) sLen sCap s x zs m app).run P w= .ok (.slice (ah a) (sLen+m) sCap) w':=by unfold mf;rw[bz h];simp only[cj,ha,bG,Li,cT]
theorem Ei{w:bL}{el size sCap:aF}{s x:bk}{zs:aX}{app:Sem (du bk)}{news:az bk}(ha:app.run P w= .ok news.toArray w):
  (mf el size aj 0 sCap s x zs 0 app).run P w= .ok (.slice aj 0 sCap) w:=by unfold mf;rw[bz (bI _)];simp only[cj,ha,bG,cT]
theorem Eh{w:bL}{el size sLen sCap m:aF}{base:aC Addr}{s x:bk}{zs:aX}{app:Sem (du bk)}{pE news:az bk}{inf:Kr}{z:bk}(hi:P.info? el=ah inf)(hz:inf.zero=ah z)
  (h:¬sLen+m<=sCap) (h63:sLen+m<=9223372036854775807) (h48:(sLen+m)*inf.bytes<=140737488355328)
  (ho:(fB size sLen s).run P w.drew= .ok pE.toArray w.drew) (ha:app.run P w.drew= .ok news.toArray w.drew):
  (mf el size base sLen sCap s x zs m app).run P w= .ok (.slice (ah (ad w.heap.size 0)) (sLen+m) (grownCap w (sLen+m) sCap el))
   (w.drew.alloc (.cells (pE.toArray++news.toArray++fN z.cells (grownCap w (sLen+m) sCap el-(sLen+m))) el)):=by
 have ht:∀W,(typeInfo el).run P W= .ok inf W:=λW=>by simp[typeInfo,hi]
 have hzv:∀W,(zeroValue el).run P W= .ok z W:=λW=>by simp[zeroValue,typeInfo,hi,hz]
 have c1:¬(((sLen+m:aF):aw)>ao.max/\(zs=ai\/inf.bytes=0)):=by
  have:ao.max=9223372036854775807:=by decide
  rintro ⟨h,_⟩;omega
 have c2:¬(HW (sLen+m) sCap*inf.bytes>2^48):=by
  have:=growslice_fits (need:=sLen+m) (old:=sCap) (bytes:=inf.bytes) (by omega) h48;have e:2^48=281474976710656:=by decide
  omega
 have Wv:(choose (.appendCap (sLen+m) sCap el)).run P w= .ok (grownCap w (sLen+m) sCap el) w.drew:=by rw[run_choose_drew];rfl
 have arC:∀n W,(askRoom n).run P W= .ok () W:=λn W=>by simp only[askRoom];split<;>simp
 have zE:∀cs,(newRow el cs).run P w.drew= .ok (ad w.heap.size 0) (w.drew.alloc (.cells cs el)):=λcs=>by simp only[newRow,newObj,cj,nB,bG,cT];rfl
 unfold mf;rw[bH h];simp only[cj,ht,bG,c1,c2,if_false,Wv,arC,ho,ha,hzv,zE,cT,nr]
structure App (P:c5) (w:bL) (u:aF) (x:bk) (z:du bk) (sz m:aF) (news:az bk):Prop where
 h:(((∃e',P.underlying u=ah (.slice e'))\/P.underlying u=ah .string)/\(pJ x).run P w= .ok m w/\(fB sz m x).run P w= .ok news.toArray w/\(fB sz m x).run P w.drew= .ok news.toArray w.drew)\/
  ((∃k,P.underlying u=ah (.int k))/\(∃k',x= .int k' (m:aw))/\news=(fN z m).toList)
 len:news.length=m*sz
 one:∀v∈news,v.oneCell'=ai
structure aed (w w':bL) (p p':Pl) (m:aF) (news:az bk):Prop where
 n:p'.n=p.n+m
 sz:p'.sz=p.sz
 nil:p'.nil=ai->p'.cap=0/\p.n=0/\m=0
 mem:p'.nil=ak->∃je,n8 w' p'.blk je/\p'.n<=p'.cap/\p'.cap<=maxLen/\p'.off+p'.cap*p'.sz<=je.size/\
  (∀k u,k<p.n*p.sz->w.cell? (ad p.blk (p.off+k))=ah u->je[p'.off+k]? =ah u)/\(∀k,k<m*p.sz->je[p'.off+p.n*p.sz+k]? =news[k]?)
 blk:p'.nil=ak->(p.nil=ak/\p'.blk=p.blk)\/p'.blk=w.heap.size
 old:∀b,b<w.heap.size->(p'.nil=ak->b≠p'.blk)->w'.heap[b]? =w.heap[b]?
 size:w.heap.size<=w'.heap.size
 os:w'.os=w.os
 tape:w'.tape=w.tape
 output:w'.output=w.output
theorem t_{w:bL}{t u ty el:aF}{inf:Kr}{z:bk}{p:Pl}{x:bk}{m:aF}{news:az bk}(hu:P.underlying t=ah (.slice el))(hi:P.info? el=ah inf)(hz:inf.zero=ah z)(QI:z.cells.size=p.sz)(gh:inf.size=p.sz)
  (jE:p.nil=ai->p.n=0) (afj:p.nil=ak->∃vals,n8 w p.blk vals/\p.n<=p.cap/\p.cap<=maxLen/\p.off+p.cap*p.sz<=vals.size)
  (hx:App P w u x z.cells p.sz m news) (h1:(p.n+m)*inf.bytes<=140737488355328) (h2:p.n+m<=9223372036854775807):
  ∃p' w',(iy #[t,u] ty #[lW p,x]).run P w= .ok (lW p') w'/\aed w w' p p' m news:=by
 have hmb:m*inf.bytes<=140737488355328:=dh (b8 _ (by omega)) h1;have hzv:∀W,(zeroValue el).run P W= .ok z W:=λW=>by simp[zeroValue,typeInfo,hi,hz]
 have hml:p.n+m<=maxLen:=by simp only[maxLen];omega
 have tail:∀(base:aC Addr) (sLen sCap:aF),∃(zs:aX) (app:Sem (du bk)),(iy #[t,u] ty #[.slice base sLen sCap,x]).run P w=(mf el p.sz base sLen sCap (.slice base sLen sCap) x zs m app).run P w/\
   app.run P w= .ok news.toArray w/\app.run P w.drew= .ok news.toArray w.drew:=by
  intro base sLen sCap
  rcases hx.h with ⟨hd,hl,hf,hf2⟩|⟨⟨k,hk⟩,⟨k',hxv⟩,hn⟩
  ·have:=zS (P:=P) (w:=w) (ty:=ty) hu hi hd (base:=base) (sLen:=sLen) (sCap:=sCap) hl;rw[gh]at this;exact⟨_,_,this,hf,hf2⟩
  ·have:=C6 (P:=P) (w:=w) (ty:=ty) hu hi hk (base:=base) (sLen:=sLen) (sCap:=sCap) hxv (by omega) hmb;rw[gh]at this;refine⟨_,_,this, ?_, ?_⟩
   ·rw[hn];split
    ·rename_i h0;have:fN z.cells m= #[]:=AB (by rw[size_zeroCells,QI,h0]);rw[this];rfl
    ·simp only[cj,hzv,bG,cT,uk]
   ·rw[hn];split
    ·rename_i h0;have:fN z.cells m= #[]:=AB (by rw[size_zeroCells,QI,h0]);rw[this];rfl
    ·simp only[cj,hzv,bG,cT,uk]
 have grow:∀(base:aC Addr) (sCap:aF) (pE:az bk) (zs:aX) (app:Sem (du bk)),¬p.n+m<=sCap->pE.length=p.n*p.sz->(∀k u,k<p.n*p.sz->w.cell? (ad p.blk (p.off+k))=ah u->pE[k]? =ah u)->
   (fB p.sz p.n (.slice base p.n sCap)).run P w.drew= .ok pE.toArray w.drew->app.run P w.drew= .ok news.toArray w.drew->
   ∃p' w',(mf el p.sz base p.n sCap (.slice base p.n sCap) x zs m app).run P w= .ok (lW p') w'/\aed w w' p p' m news:=by
  intro base sCap pE zs app hc Fb PC hf ha
  have hr:=Eh (P:=P) (w:=w) (size:=p.sz) (zs:=zs) (x:=x) (base:=base) hi hz hc h2 h1 hf ha
  refine⟨⟨ak,w.heap.size,0,grownCap w (p.n+m) sCap el,p.n+m,p.sz⟩,_,hr,⟨rfl,rfl,λh=>(by cases h),λ_=> ?_,λ_=> .inr rfl,λb hb _=>heap_alloc_old w.drew _ b hb,by simp,rfl,rfl,rfl⟩⟩
  have hge:=grownCap_ge w (p.n+m) sCap el
  refine⟨_,⟨_,_,heap_alloc_new w.drew _,λq _=>by simp⟩,hge,grownCap_le_maxLen w _ _ _ hml, ?_,λk u hk sD=> ?_,λk hk=> ?_⟩
  ·simp only[Array.size_append,Wl,size_zeroCells,QI,Fb,hx.len,<-dp,bV];exact b8 _ (by omega)
  ·rw[bV,OK,Eo (by simpa [Fb]using hk),ik];exact PC k u hk sD
  ·rw[bV,OK,Array.getElem?_append_right (by simp[Fb]),Eo (by simp[Fb,hx.len];omega),ik];congr 1;simp[Fb]
 cases hq:p.nil with
 |true=>
  have hn:=jE hq;rw[nO hq];obtain⟨zs,app,hr,ha,ha2⟩:=tail aj 0 0;rw[hr];by_cases hm:m=0
  ·subst hm;refine⟨⟨ai,0,0,0,0,p.sz⟩,w,Ei ha,⟨by simp[hn],rfl,λ_=>⟨rfl,hn,rfl⟩,λh=>(by cases h),λh=>(by cases h),λ_ _ _=>rfl,cF _,rfl,rfl,rfl⟩⟩
  ·have:=grow aj 0 [] zs app (by omega) (by simp[hn]) (λk u hk=>by rw[hn]at hk;simp at hk) (by rw[hn];exact run_firstCells_none _ _ _ _ _) ha2;rwa[hn]at this
 |false=>
  rw[fa hq];obtain⟨vals,hb,S0,XM,mM⟩:=afj hq;obtain⟨zs,app,hr,ha,ha2⟩:=tail (ah (ad p.blk p.off)) p.n p.cap;rw[hr];have hle:p.n*p.sz<=p.cap*p.sz:=b8 _ S0;by_cases hc:p.n+m<=p.cap
  ·have vv:p.off+p.n*p.sz+news.length<=vals.size:=by have:(p.n+m)*p.sz<=p.cap*p.sz:=b8 _ hc;rw[dp]at this;rw[hx.len];omega
   have Li:=nQ (P:=P) w hb vv hx.one;have hrr:=Ej (P:=P) (s:= .slice (ah (ad p.blk p.off)) p.n p.cap) (x:=x) (el:=el) (size:=p.sz) (zs:=zs) ha hc (by rw[Addr.oa];exact Li);refine⟨⟨ak,p.blk,p.off,p.cap,p.n+m,p.sz⟩,_,hrr,⟨rfl,rfl,λh=>(by cases h),λ_=>⟨_,hb.setRow (fg vv),hc,XM,by rw[fg vv];exact mM,λk u hk sD=> ?_,λk hk=> ?_⟩,λ_=> .inl ⟨hq,rfl⟩,λb _ QD=>setRow_other w _ b _ (QD rfl),by simp[lI],rfl,rfl,rfl⟩⟩
   ·show(eh vals (p.off+p.n*p.sz) news)[p.off+k]? =ah u;rw[gp vv,bH (by omega),<-hb.cell];exact sD
   ·show(eh vals (p.off+p.n*p.sz) news)[p.off+p.n*p.sz+k]? =news[k]?;rw[gp vv,bz (by rw[hx.len];omega)];congr 1;omega
  ·have hcell:∀k,k<p.n*p.sz->w.cell? (ad p.blk (p.off+k))=vals[p.off+k]? :=λk _=>hb.cell _;let pE:=(vals.toList.drop p.off).take (p.n*p.sz);have Fb:pE.length=p.n*p.sz:=by simp only[pE,eD,iE,dR];omega
   have PC:∀k u,k<p.n*p.sz->w.cell? (ad p.blk (p.off+k))=ah u->pE[k]? =ah u:=λk u hk sD=>by rw[hcell k hk]at sD;simp only[pE,d_,bz hk,dQ,cY,sD]
   refine grow (ah (ad p.blk p.off)) p.cap pE zs app hc Fb PC ?_ ha2;refine run_firstCells_some w.drew p.sz p.n _ _ _ pE Fb (λj v hj=> ?_);have j8:j<p.n*p.sz:=by rw[<-Fb];exact(aT.1 hj).1
   simp only[pE,d_,bz j8,dQ,cY]at hj;rw[Addr.oa];have:=hcell j j8;rw[hj]at this;simpa using this
end
end Go.FG

