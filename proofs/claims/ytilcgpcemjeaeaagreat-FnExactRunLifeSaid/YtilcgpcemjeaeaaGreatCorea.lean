/- An evaluator for the part of the language that this program uses, proved sound over the model: states told as values and lists; what an evaluation tells, the call does. No condition. -/
import Derived.Calls
import Derived.Orders
import Derived.Below
import Derived.Laws.AppendOwn
import Derived.Laws.Slices
import Derived.Laws.StructEq
import Derived.Laws.Tables
import Derived.Laws.MakeOwn
import Derived.Laws.IdiomStrings
import Derived.Laws.BytesArg
import Derived.Laws.NewFold
import Derived.SizedLaws
import Derived.Carry
import Derived.ProofKit
import Derived.KernelRfl
import Derived.Laws.Strings
set_option linter.unusedVariables false
set_option linter.unusedSimpArgs false
set_option maxRecDepth 100000
open Array renaming getElem?_eq_some_iff->dY,getD_eq_getD_getElem?->eM,getElem?_setIfInBounds->oc,toArray_toList->uc,getElem?_toList->cZ,ext'->sC,length_toList->dW,toList_map->BC,getElem?_map->P5,getElem?_extract->eh,eq_empty_of_size_eq_zero->BB,append_assoc->P4,getElem?_append_left->Fv
open BitVec renaming ofInt->dm
open Bool renaming false->ak,true->ai,false_eq_true->dt,and_eq_true->aK,not_eq_true'->du,and_assoc->nK,or_eq_false_iff->iF,not_false->bS,not_true->aX
open ByteArray renaming size_extract->yX,size_append->dH,empty->I7,size->b8
open Go renaming IntKind->nh,Value->bn,Operand->dx,Oper->fB,World->bJ,Program->c6,TypeInfo->Ls
open Go.Act renaming put->Xp,eval->Jn
open Go.Builtin renaming len_->wL,max2->FA,min2->FC,clear_->oM,zeroCells->fO,nextslicecap->I8,firstCells->fA,lenOf->pB,append_->iv
open Go.Instr renaming loadAt->zL,sureAddr->uP,storeAt->X9,fieldAt->X7,indexAt->X8,sliceBound->qP,sliceBounds->mY,sliceAt->qq,fill->pC,buildSlice->Bj
open Go.IntKind renaming i64->ao,wrap_i64->qb
open Go.Op renaming bytesLess->b9
open Go.Oper renaming wp->P8
open Go.Region renaming binds->mI
open Go.Result renaming andThen_ok->bG
open Go.Sem renaming run_bind->cq,run_pure->cU,run->ni,run_ite->m8
open Go.World renaming cell?_of_block->uQ,setRow->lA
open Int renaming toNat_natCast->eT,natCast_mul->X_
open List renaming mem_cons_of_mem->c9,mem_cons->cB,mem_cons_self->dL,mem_flatMap->bL,mem_of_getElem?->aR,append_nil->cu,length_nil->jN,take_append_drop->vO,getElem?_toArray->h_,append_assoc->bU,getElem?_append_left->dC,getElem?_take->ea,getElem?_append_right->c8,getElem?_drop->dV,length_eq_one_iff->gX,getElem?_cons_succ->dO,getD->gg,getElem?_map->bI,getElem_mem->bu,mem_map->cw,all_eq_true->bA,range->ch,getElem?_range->vN,getElem?_eq_none->kS,getElem?_eq_some_iff->aT,mem_of_mem_drop->kT,mem_of_mem_take->kU,getElem?_of_mem->b7,map_toArray->EJ,map_cons->eC,map_nil->CY,ext_getElem?->Xv,eq_nil_of_length_eq_zero->gj,mem_append->bf,length_cons->dh,foldl_cons->EI,map_map->kl,map_congr_left->wU,size_toArray->Xw,length_map->bR,getD_eq_getElem?_getD->d_,getElem?_set->Rt,all_cons->pQ,length_take->eE,length_drop->iC,length_singleton->bC,mem_append_left->bW,mem_append_right->bO,nodup_append->eB,length_set->cO,mem_or_eq_of_mem_set->jE,nodup_cons->kE,nil_append->gG,mem_singleton->aZ,getElem?_cons_zero->sD
open Nat renaming beq->bD,blt->qs,ble->fL,le_refl->cJ,le_trans->dc,lt_of_lt_of_le->js,eq_of_beq_eq_true->aU,add_zero->zP,add_assoc->lX,le_of_ble_eq_true->cL,add_mul->dn,zero_le->bk,mul_le_mul_right->b_,eq_zero_or_pos->Es,div_lt_iff_lt_mul->yZ,mod_lt->Et,div_add_mod->K8,mul_comm->FF,zero_add->bT,lt_or_gt_of_ne->Rv,add_comm->iY,sub_self->vP,sub_zero->oN,lt_irrefl->bg
open Option renaming some->ah,none->aj,map_some->jc,getD_some->zQ
open Option.some renaming inj->aF,injEq->jw
open Prod.mk renaming inj->bV,injEq->jd
open UInt8 renaming ofNat->aP
open _root_ renaming Nat->aC,Int->aw,Bool->aY,ByteArray->aq,List->az,Option->ay,Array->dp,if_pos->bB,if_neg->bH,absurd->cS,cond_true->au,cond_false->ax,decide_eq_true_eq->bj,of_decide_eq_true->cF,congrArg->lH
namespace Go.FG
inductive Ck where
 |i (k:nh)|b|s|l (e:aC)|o
inductive CV where
 |i (k:nh) (n:aw)|b (x:aY)|s (x:aq)|l (e:aC) (xs:az (az CV))
abbrev aQ:=az (az CV)
def CV.kd:CV->Ck
 | .i k _=> .i k| .b _=> .b| .s _=> .s| .l e _=> .l e
def bF:CV->aw| .i _ n=>n|_=>0
def cvB:CV->aY| .b x=>x|_=>ak
def bz:CV->aq| .s x=>x|_=>⟨#[]⟩
def gD:CV->aQ| .l _ xs=>xs|_=>[]
def ar(xs:aQ)(i j:aC):CV:=(xs.getD i []).getD j (.b ak)
inductive AV where
 |i (k:nh) (n:aw)|b (x:aY)|s (x:aq)
 |sh (e:aC) (xs:aQ)
 |nl
 |own (nm:aC)
 |vw (nm lo hi:aC)
 |bp (nm j:aC)
 |rp (nm i j:aC)
 |sp (e:aC) (xs:aQ) (i j:aC)
 |mU (nm i j:aC)
 |ip (nm i j i2 j2:aC)
 |fn (f:aC) (iQ:az (az CV))
 |fp (xs:az CV) (j:aC)
inductive SV where
 |v (agg:aY) (xs:az AV)|j_ (xs:az (aY×az AV))|un
inductive Obj where
 |box (xs:az AV)|n5 (xs:az CV)|row (e:aC) (ex:aY) (xs:aQ)|fV (e:aC) (xs:aQ)|dead
inductive eR where
 |v (x:SV)|o (x:Obj)|jZ
def AO(n:aC):aY:=bD (n%1000) 999&&qs n 900000000
abbrev St:=aC->eR
def pM(s:St)(k:aC)(c:eR):St:=λn=>bif bD n k then c else s n
def wr(s:St):az (aC×eR)->St
 |[]=>s
 |(k,c)::r=>wr (pM s k c) r
def qn(n:aC):aC:=2*n
def db(n:aC):aC:=2*n+1
inductive Rd (α:Type) where
 |ret (a:α)|fail|get (k:aC) (f:eR->Rd α)
def Rd.bind{α β:Type}:Rd α->(α->Rd β)->Rd β
 | .ret a,f=>f a
 | .fail,_=> .fail
 | .get k g,f=> .get k λc=>(g c).bind f
def Rd.run{α:Type}:Rd α->St->az aC->ay (α×az aC)
 | .ret a,_,l=>ah (a,l)
 | .fail,_,_=>aj
 | .get k f,s,l=>(f (s k)).run s (k::l)
structure TI where
 agg:aY
 ks:az Ck
 bytes:aC
inductive AA where
 |i (k:nh) (n:aw)|b (x:aY)|s (x:aq)|sh (e:aC) (xs:aQ)|nl
 |ow (e:aC) (ex:aY) (xs:aQ)|kp (xs:aQ)|fn (f:aC) (iQ:az (az CV))
inductive fj where
 |v (agg:aY) (xs:az AA)|pt (xs:az AA)|fb (xs:az CV)
structure dj where
 rs:az fj
 outs:az (az AA)
structure Tab where
 ty:aC->ay TI
 fo:aC->aC->ay (aC×aC)
 eqs:az aC
 T9:aC->aC->aY:=λ_ _=>ak
inductive Om where
 |nat|own (e:aC)|sh (e:aC)
structure fS extends Tab where
 call:aC->az fj->ay (aY×dj)
 om:aC->aC->Om
 mode:aC->aC->aY
 keep:aC->az aC
 tk:aC->aY
instance:Coe fS Tab:=⟨fS.toTab⟩
structure sV where
 cond:aY
 ws:az (aC×eR)
def mC(n:aC):az aC->aY
 |[]=>ak|m::r=>bD n m||mC n r
def cst:bn->SV
 | .int k n=> .v ak [.i k n]| .bool x=> .v ak [.b x]| .string x=>bif fL x.size 4611686018427387904 then .v ak [.s x]else .un
 | .slice aj 0 0=> .v ak [.nl]
 |_=> .un
def IC(x:dx):Rd SV:=
 match x with
 | .tmp t=> .get (qn t) λ| .v x=> .ret x|_=> .ret .un
 | .const v=> .ret (cst v)
 | .func f=> .ret (.v ak [.fn f []])
 | .global _=> .fail
def jI(nm:aC):Rd Obj:= .get (db nm) λ| .o x=> .ret x|_=> .fail
def fresh(nm:aC):Rd Unit:= .get (db nm) λ| .jZ=>bif fL nm 899999999 then .ret ()else .fail|_=> .fail
def rS(x:dx):Rd AV:=(IC x).bind λ| .v ak [a]=> .ret a|_=> .fail
def DR(x:dx):Rd (nh×aw):=(rS x).bind λ| .i k n=> .ret (k,n)|_=> .fail
def dw(o:fB)(v:SV):az (aC×eR):=match o.dst with|some d=>[(qn d, .v v)]|none=>[]
def val(o:fB)(v:SV):Rd sV:= .ret ⟨ai,dw o v⟩
def Bg(o:fB)(v:AV):Rd sV:=val o (.v ak [v])
def Ng(o:fB)(c:aY)(v:AV):Rd sV:= .ret ⟨c,dw o (.v ak [v])⟩
def sO(E:fS)(t:aC):Rd TI:=match E.ty t with|some i=> .ret i|none=> .fail
def pX(E:fS)(t:aC):Rd Ck:=(sO E t).bind λti=>match ti.agg,ti.ks with|false,[k]=> .ret k|_,_=> .fail
def Em:Ck->AV
 | .i k=> .i k 0| .b=> .b ak| .s=> .s ⟨#[]⟩| .l _=> .nl| .o=> .nl
def se:Ck->CV
 | .i k=> .i k 0| .b=> .b ak| .s=> .s ⟨#[]⟩| .l e=> .l e []| .o=> .b ak
def ML(ks:az Ck):aY:=ks.all λ| .o=>ak|_=>ai
def dec:Ck->CV->AV
 | .i k,x=> .i k (bF x)| .b,x=> .b (cvB x)| .s,x=> .s (bz x)| .l e,x=> .sh e (gD x)| .o,_=> .nl
def va(xs:aQ)(i:aC):aC->az Ck->az AV
 |_,[]=>[]
 |j,k::ks=>dec k (ar xs i j)::va xs i (j+1) ks
def B1(nm:aC)(xs:aQ)(i:aC):aC->az Ck->az AV
 |_,[]=>[]
 |j, .l _::ks=> .mU nm i j::B1 nm xs i (j+1) ks
 |j,k::ks=>dec k (ar xs i j)::B1 nm xs i (j+1) ks
def aaA:CV->AV
 | .i k n=> .i k n| .b x=> .b x| .s x=> .s x| .l e xs=> .sh e xs
def dS{α:Type}(xs:az α)(j:aC)(ys:az α):az α:=xs.take j++ys++xs.drop (j+ys.length)
def cK(xs:aQ)(i j:aC)(ys:az CV):aQ:=xs.set i (dS (xs.getD i []) j ys)
def aE9(agg:aY)(xs:az AV):SV:= .v agg xs
def e8(xs:aQ)(lo hi:aC):aQ:=(xs.drop lo).take (hi-lo)
def plain(ks:az Ck):aY:=ks.all λ| .i _=>ai| .b=>ai| .s=>ai|_=>ak
def ckB:Ck->Ck->aY
 | .i a, .i b=>decide (a=b)| .b, .b=>ai| .s, .s=>ai| .l a, .l b=>bD a b| .o, .o=>ai|_,_=>ak
def qk:az Ck->az Ck->aY
 |[],[]=>ai|x::l,y::r=>ckB x y&&qk l r|_,_=>ak
def JW(ex:aY)(k:Ck)(a:AV):Rd (CV×az (aC×eR)):=
 match k,a with
 | .i k, .i k' n=>if k=k' then .ret (.i k n,[])else .fail
 | .b, .b x=> .ret (.b x,[])
 | .s, .s x=> .ret (.s x,[])
 | .l e, .nl=> .ret (.l e [],[])
 | .l e, .sh e' xs=>bif bD e e'&& !ex then .ret (.l e xs,[])else .fail
 | .l e, .own nm=>(jI nm).bind λ
  | .row e' uv xs=>bif bD e e'&&uv then(bif ex then .ret (.l e xs,[(db nm, .o .dead)])else .fail)else .fail
  | .fV e' xs=>bif bD e e'&& !ex then .ret (.l e xs,[])else .fail
  |_=> .fail
 |_,_=> .fail
def AE(ex:aY):az Ck->az AV->Rd (az CV×az (aC×eR))
 |[],[]=> .ret ([],[])
 |k::ks,a::r=>(JW ex k a).bind λ(c,w)=>(AE ex ks r).bind λ(cs,ws)=> .ret (c::cs,w++ws)
 |_,_=> .fail
def ak5:az AV->aY
 |[]=>ai
 | .sh _ _::_=>ak
 |_::r=>ak5 r
end Go.FG

namespace Go.FG
def agE(op:BinOp)(k:nh)(a b:aw):ay (aY×AV):=
 match op with
 | .add=>ah (ai, .i k (k.wrap (a+b)))
 | .sub=>ah (ai, .i k (k.wrap (a-b)))
 | .mul=>ah (ai, .i k (k.wrap (a*b)))
 | .quo=>ah (!(b==0), .i k (k.wrap (a.tdiv b)))
 | .rem=>ah (!(b==0), .i k (a.tmod b))
 | .and=>ah (ai, .i k (k.wrap (dm k.bits a&&&dm k.bits b).toNat))
 | .or=>ah (ai, .i k (k.wrap (dm k.bits a|||BitVec.ofInt k.bits b).toNat))
 | .xor=>ah (ai, .i k (k.wrap (dm k.bits a^^^dm k.bits b).toNat))
 | .eql=>ah (ai, .b (a==b))
 | .neq=>ah (ai, .b (a !=b))
 | .lss=>ah (ai, .b (decide (a<b)))
 | .leq=>ah (ai, .b (decide (a<=b)))
 | .gtr=>ah (ai, .b (decide (a>b)))
 | .geq=>ah (ai, .b (decide (a≥b)))
 |_=>aj
def agG(op:BinOp)(a b:aq):ay (aY×AV):=
 match op with
 | .add=>ah (decide (a.size+b.size<=4611686018427387904), .s (a++b))
 | .eql=>ah (ai, .b (a.toList==b.toList))
 | .neq=>ah (ai, .b (!(a.toList==b.toList)))
 | .lss=>ah (ai, .b (b9 a.toList b.toList))
 | .leq=>ah (ai, .b (b9 a.toList b.toList||a.toList==b.toList))
 | .gtr=>ah (ai, .b (!(b9 a.toList b.toList||a.toList==b.toList)))
 | .geq=>ah (ai, .b (!(b9 a.toList b.toList)))
 |_=>aj
def Yz:az AV->az AV->ay aY
 |[],[]=>ah ai
 | .i k a::l, .i k' b::r=>if k=k' then(match Yz l r with|some t=>ah ((a==b)&&t)|none=>aj)else aj
 | .b a::l, .b b::r=>match Yz l r with|some t=>ah ((a==b)&&t)|none=>aj
 | .s a::l, .s b::r=>match Yz l r with|some t=>ah ((a.toList==b.toList)&&t)|none=>aj
 |_,_=>aj
def Iq:AV->Ck
 | .i k _=> .i k| .b _=> .b| .s _=> .s|_=> .o
def LP(op:BinOp)(k:Ck):AV->AV->ay (aY×AV)
 | .i k a, .i k' b=>if k=k' then agE op k a b else aj
 | .s a, .s b=>agG op a b
 | .b a, .b b=>match op,k with| .eql, .b=>ah (ai, .b (a==b))| .neq, .b=>ah (ai, .b (!(a==b)))|_,_=>aj
 |_,_=>aj
def shV(op:BinOp):AV->AV->ay (aY×AV)
 | .i k a, .i _ b=>match op with
  | .shl=>ah (decide (0<=b), .i k (k.wrap (a*2^(min b.toNat k.bits))))
  | .shr=>ah (decide (0<=b), .i k (a.fdiv (2^(min b.toNat k.bits))))
  |_=>aj
 |_,_=>aj
def QM:BinOp->aY| .shl=>ai| .shr=>ai|_=>ak
def isEq:BinOp->aY| .eql=>ai| .neq=>ai|_=>ak
def VS{α:Type}:ay α->Rd α|some a=> .ret a|none=> .fail
def agF(E:fS)(t:aC)(op:BinOp)(x y:SV):Rd (aY×AV):=
 match x,y with
 | .v ak [a], .v ak [b]=>bif QM op then VS (shV op a b)else(pX E t).bind λk=>VS (LP op k a b)
 | .v ai xs, .v ai ys=>(sO E t).bind λti=>
   bif isEq op&&mC t E.eqs&&qk (xs.map Iq) ti.ks&&qk (ys.map Iq) ti.ks&&plain ti.ks then VS (match Yz xs ys with|some r=>ah (ai,AV.b (match op with| .eql=>r|_=> !r))|none=>aj)else .fail
 |_,_=> .fail
def OA:az AV->az (aC×az AV)->az AV
 |z,[]=>z
 |z,(j,ys)::r=>OA (dS z j ys) r
def ID(E:fS)(t:aC):az (aC×dx)->Rd (az (aC×az AV))
 |[]=> .ret []
 |(f,x)::r=>(IC x).bind λ
  | .v _ ys=>match E.fo t f with
   |some (o,n)=>bif bD ys.length n then(ID E t r).bind λl=> .ret ((o,ys)::l)else .fail
   |none=> .fail
  |_=> .fail
def mv(E:fS)(a:AV):Rd (aC×aQ):=
 match a with
 | .sh e xs=> .ret (e,xs)
 | .own nm=>(jI nm).bind λ| .row e _ xs=> .ret (e,xs)| .fV e xs=> .ret (e,xs)|_=> .fail
 | .vw nm lo hi=>(jI nm).bind λ| .row e _ xs=> .ret (e,e8 xs lo hi)| .fV e xs=> .ret (e,e8 xs lo hi)|_=> .fail
 | .mU nm i j=>(jI nm).bind λ
  | .row e ai xs=>(sO E e).bind λti=>match ti.ks[j]? with|some (.l e2)=> .ret (e2,gD (ar xs i j))|_=> .fail
  |_=> .fail
 |_=> .fail
def ahL(E:fS)(k:Ck)(a:AV):Rd aw:=
 match k,a with
 | .s, .s x=> .ret x.size
 | .l _, .nl=> .ret 0
 | .l _, .vw nm lo hi=>(jI nm).bind λ| .row _ _ _=> .ret ((hi-lo:aC):aw)| .fV _ _=> .ret ((hi-lo:aC):aw)|_=> .fail
 | .l _,a=>(mv E a).bind λ(_,xs)=> .ret xs.length
 |_,_=> .fail
def L0(ex:aY)(ks:az Ck):az (aC×dx)->aQ->Rd (aQ×az (aC×eR))
 |[],z=> .ret (z,[])
 |(i,x)::r,z=>(IC x).bind λ
  | .v _ ys=>bif fL (i+1) z.length then(AE ex ks ys).bind λ(cs,w)=>(L0 ex ks r (z.set i cs)).bind λ(z,ws)=> .ret (z,w++ws)else .fail
  |_=> .fail
def Ow:az (aC×dx)->Rd aY
 |[]=> .ret ai
 |(_,x)::r=>(IC x).bind λ
  | .v _ ys=>(Ow r).bind λb=> .ret (ak5 ys&&b)
  |_=> .fail
def aN(ks:az Ck)(n:aC):aQ:=List.replicate n (ks.map se)
def bytesOf(xs:aQ):aq:=⟨(xs.map λy=>aP (bF (y.getD 0 (.b ak))).toNat).toArray⟩
def qK(s:aq):aQ:=s.data.toList.map λb=>[.i .u8 (b.toNat:aw)]
def u8s:az Ck->aY|[.i .u8]=>ai|_=>ak
def flat(E:fS)(ks:az Ck):aY:=ks.all λ
 | .l e=>match E.ty e with|some ti=>plain ti.ks|none=>ak
 |_=>ai
def cC(n:aC)(bytes:aC):aY:=decide (n*bytes<=140737488355328)&&decide (n<=9223372036854775807)
def tE(E:fS)(ti:TI)(p:AV):Rd (az AV):=
 match p with
 | .bp nm j=>(jI nm).bind λ
  | .box xs=>bif fL (j+ti.ks.length) xs.length then .ret ((xs.drop j).take ti.ks.length)else .fail
  | .n5 xs=>bif fL (j+ti.ks.length) xs.length then .ret (((xs.drop j).take ti.ks.length).map aaA)else .fail
  |_=> .fail
 | .fp xs j=>bif fL (j+ti.ks.length) xs.length then .ret (((xs.drop j).take ti.ks.length).map aaA)else .fail
 | .sp e xs i j=>(sO E e).bind λte=>bif qk ((te.ks.drop j).take ti.ks.length) ti.ks then .ret (va xs i j ti.ks)else .fail
 | .rp nm i j=>(jI nm).bind λ
  | .row e ex xs=>(sO E e).bind λte=>bif qk ((te.ks.drop j).take ti.ks.length) ti.ks then(bif ex&&AO nm then(bif plain ti.ks then .ret (va xs i j ti.ks)else .fail)else .ret (bif ex then B1 nm xs i j ti.ks else va xs i j ti.ks))else .fail
  | .fV e xs=>(sO E e).bind λte=>bif qk ((te.ks.drop j).take ti.ks.length) ti.ks then .ret (va xs i j ti.ks)else .fail
  |_=> .fail
 | .ip nm i j i2 j2=>(jI nm).bind λ
  | .row e ai xs=>(sO E e).bind λte=>match te.ks[j]? with
   |some (.l e2)=>(sO E e2).bind λt2=>bif qk ((t2.ks.drop j2).take ti.ks.length) ti.ks then .ret (va (gD (ar xs i j)) i2 j2 ti.ks)else .fail
   |_=> .fail
  |_=> .fail
 |_=> .fail
def IX(E:fS)(p:AV)(ys:az AV):Rd (az (aC×eR)):=
 match p with
 | .bp nm j=>(jI nm).bind λ
  | .box xs=>bif fL (j+ys.length) xs.length then .ret [(db nm, .o (.box (dS xs j ys)))]else .fail
  |_=> .fail
 | .rp nm i j=>(jI nm).bind λ
  | .row e ex xs=>(sO E e).bind λte=>bif plain ((te.ks.drop j).take ys.length)then(AE ak ((te.ks.drop j).take ys.length) ys).bind λ(cs,_)=> .ret [(db nm, .o (.row e ex (cK xs i j cs)))]else .fail
  |_=> .fail
 | .ip nm i j i2 j2=>(jI nm).bind λ
  | .row e ai xs=>(sO E e).bind λte=>match te.ks[j]? with
   |some (.l e2)=>(sO E e2).bind λt2=>bif plain t2.ks then(AE ak ((t2.ks.drop j2).take ys.length) ys).bind λ(cs,_)=>
    .ret [(db nm, .o (.row e ai (cK xs i j [.l e2 (cK (gD (ar xs i j)) i2 j2 cs)])))]else .fail
   |_=> .fail
  |_=> .fail
 |_=> .fail
def KA:az AV->aY
 |[]=>ai
 | .own _::_=>ak
 |_::r=>KA r
def AW:aC->az AV->ay (aC×aC)
 |_,[]=>aj
 |q, .own n::r=>bif KA r then ah (q,n)else aj
 |q,_::r=>AW (q+1) r
def E6(e2 n2:aC)(zs:aQ):az Ck->az AV->ay (az CV)
 |[],[]=>ah []
 | .i k::ks, .i k' x::r=>if k=k' then(E6 e2 n2 zs ks r).map (.i k x:: ·)else aj
 | .b::ks, .b x::r=>(E6 e2 n2 zs ks r).map (.b x:: ·)
 | .s::ks, .s x::r=>(E6 e2 n2 zs ks r).map (.s x:: ·)
 | .l e::ks, .own n::r=>bif bD e e2&&bD n n2 then(E6 e2 n2 zs ks r).map (.l e2 zs:: ·)else aj
 |_,_=>aj
def IW(E:fS)(n i j:aC)(ys:az AV):Rd (az (aC×eR)):=
 (jI n).bind λ
 | .row e ai xs=>(sO E e).bind λte=>match AW 0 ys with
  |some (q,n2)=>bif bD n n2 then .fail else(jI n2).bind λ
   | .row e2 ai zs=>(sO E e2).bind λt2=>bif plain t2.ks&&fL (j+ys.length) te.ks.length then(match E6 e2 n2 zs ((te.ks.drop j).take ys.length) ys with
    |some cs=> .ret [(db n, .o (.row e ai (cK xs i j cs))),(db n2, .o .dead)]
    |none=> .fail)else .fail
   |_=> .fail
  |none=> .fail
 |_=> .fail
def W5(E:fS)(p:AV)(ys:az AV):Rd (az (aC×eR)):=
 match p with
 | .rp n i j=>bif AO n then IW E n i j ys else IX E (.rp n i j) ys
 |p=>IX E p ys
def T3(E:fS)(t:aC)(f:aC)(p:AV):Rd AV:=
 match E.fo t f with
 |none=> .fail
 |some (o,_)=>match p with
  | .bp nm j=> .ret (.bp nm (j+o))
  | .rp nm i j=> .ret (.rp nm i (j+o))
  | .sp e xs i j=> .ret (.sp e xs i (j+o))
  | .ip nm i j i2 j2=> .ret (.ip nm i j i2 (j2+o))
  | .fp xs j=> .ret (.fp xs (j+o))
  |_=> .fail
def Ux(E:fS)(e:aC)(x:AV)(n:aw):Rd (aY×AV):=
 match x with
 | .sh e' xs=>bif bD e e' then .ret (decide (0<=n)&&decide (n<(xs.length:aw)), .sp e' xs n.toNat 0)else .fail
 | .own nm=>(jI nm).bind λ
  | .row e' _ xs=>bif bD e e' then .ret (decide (0<=n)&&decide (n<(xs.length:aw)), .rp nm n.toNat 0)else .fail
  | .fV e' xs=>bif bD e e' then .ret (decide (0<=n)&&decide (n<(xs.length:aw)), .rp nm n.toNat 0)else .fail
  |_=> .fail
 | .vw nm lo hi=>(jI nm).bind λ
  | .row e' _ xs=>bif bD e e' then .ret (decide (0<=n)&&decide (n<((hi-lo:aC):aw)), .rp nm (lo+n.toNat) 0)else .fail
  | .fV e' xs=>bif bD e e' then .ret (decide (0<=n)&&decide (n<((hi-lo:aC):aw)), .rp nm (lo+n.toNat) 0)else .fail
  |_=> .fail
 | .mU nm i j=>(jI nm).bind λ
  | .row e1 ai xs=>(sO E e1).bind λte=>match te.ks[j]? with
   |some (.l e')=>bif bD e e' then .ret (decide (0<=n)&&decide (n<((gD (ar xs i j)).length:aw)), .ip nm i j n.toNat 0)else .fail
   |_=> .fail
  |_=> .fail
 |_=> .fail
def n7(x:ay dx)(d:aw):Rd aw:=
 match x with
 |none=> .ret d
 |some x=>(DR x).bind λ(_,n)=> .ret n
def iA(l h n:aw):aY:=decide (0<=l)&&decide (l<=h)&&decide (h<=n)
def Wp(e:aC)(x:AV)(lo hi:ay dx):Rd (aY×AV):=
 match x with
 | .sh e' xs=>bif bD e e' then(n7 lo 0).bind λl=>(n7 hi xs.length).bind λh=> .ret (iA l h xs.length, .sh e' (e8 xs l.toNat h.toNat))else .fail
 | .own nm=>(jI nm).bind λ
  | .row e' _ xs=>bif bD e e' then(n7 lo 0).bind λl=>(n7 hi xs.length).bind λh=> .ret (iA l h xs.length, .vw nm l.toNat h.toNat)else .fail
  | .fV e' xs=>bif bD e e' then(n7 lo 0).bind λl=>(n7 hi xs.length).bind λh=> .ret (iA l h xs.length, .vw nm l.toNat h.toNat)else .fail
  |_=> .fail
 | .vw nm a b=>(jI nm).bind λ
  | .row e' _ _=>bif bD e e' then(n7 lo 0).bind λl=>(n7 hi ((b-a:aC):aw)).bind λh=> .ret (iA l h ((b-a:aC):aw), .vw nm (a+l.toNat) (a+h.toNat))else .fail
  | .fV e' _=>bif bD e e' then(n7 lo 0).bind λl=>(n7 hi ((b-a:aC):aw)).bind λh=> .ret (iA l h ((b-a:aC):aw), .vw nm (a+l.toNat) (a+h.toNat))else .fail
  |_=> .fail
 | .nl=>(n7 lo 0).bind λl=>(n7 hi 0).bind λh=> .ret (iA l h 0, .nl)
 |_=> .fail
def M4(E:fS)(k:Ck)(x:AV)(lo hi:ay dx):Rd (aY×AV):=
 match k,x with
 | .s, .s a=>(n7 lo 0).bind λl=>(n7 hi a.size).bind λh=> .ret (iA l h a.size, .s (a.extract l.toNat h.toNat))
 | .l e,x=>(sO E e).bind λ_=>Wp e x lo hi
 |_,_=> .fail
def xF(e:aC)(s:AV):Rd (aY×aQ×az aC):=
 match s with
 | .nl=> .ret (ai,[],[])
 | .own nm=>(jI nm).bind λ
  | .row e' ex xs=>bif bD e e' then .ret (ex,xs,[nm])else .fail
  |_=> .fail
 | .vw nm lo hi=>(jI nm).bind λ
  | .row e' ex xs=>bif bD e e' then .ret (ex,e8 xs lo hi,[nm])else .fail
  |_=> .fail
 |_=> .fail
def Vf(E:fS)(tH e:aC)(ks:az Ck)(b:az aC)(x:AV):Rd (aY×aQ×az (aC×eR)):=
 match x with
 | .s a=>bif u8s ks then .ret (ai,qK a,[])else .fail
 | .nl=> .ret (ai,[],[])
 | .sh e' xs=>bif bD e e' then .ret (plain ks,xs,[])else .fail
 | .own nm=>(jI nm).bind λ
  | .row e' ex xs=>bif bD e e' then
    (bif plain ks|| !ex then .ret (plain ks,xs,[])
    else bif mC nm b then .fail
    else bif E.tk tH then .ret (ak,xs,[(db nm, .o (.fV e xs))])else .ret (ai,xs,[(db nm, .o .dead)]))else .fail
  | .fV e' xs=>bif bD e e' then .ret (plain ks,xs,[])else .fail
  |_=> .fail
 | .vw nm lo hi=>(jI nm).bind λ
  | .row e' ex xs=>bif bD e e' then
    (bif plain ks|| !ex then .ret (plain ks,e8 xs lo hi,[])
    else bif mC nm b then .fail
    else bif E.tk tH then .ret (ak,e8 xs lo hi,[(db nm, .o (.fV e xs))])else .fail)else .fail
  | .fV e' xs=>bif bD e e' then .ret (plain ks,e8 xs lo hi,[])else .fail
  |_=> .fail
 | .mU nm i j=>bif plain ks then(mv E (.mU nm i j)).bind λ(e',xs)=>bif bD e e' then .ret (ai,xs,[])else .fail else .fail
 |_=> .fail
def oh(b:az aC):az (aC×eR):=b.map λn=>(db n, .o .dead)
def HV(E:fS)(tH:aC)(t:aC)(s x:AV):Rd (aY×AV×az (aC×eR)):=
 (sO E t).bind λti=>match ti.agg,ti.ks with
 |false,[.l e]=>(sO E e).bind λte=>bif ML te.ks then(xF e s).bind λ(Eu,xs,b)=>
  (Vf E tH e te.ks b x).bind λ(B2,ys,w2)=>(fresh tH).bind λ_=>
  .ret (cC (xs.length+ys.length) te.bytes, .own tH,oh b++(w2++[(db tH, .o (.row e (Eu&&B2) (xs++ys)))]))else .fail
 |_,_=> .fail
def Xm(E:fS)(tH:aC)(t:aC)(s:AV)(n:aw):Rd (aY×AV×az (aC×eR)):=
 (sO E t).bind λti=>match ti.agg,ti.ks with
 |false,[.l e]=>(sO E e).bind λte=>bif ML te.ks&&flat E te.ks then(xF e s).bind λ(ex,xs,b)=>(fresh tH).bind λ_=>
  .ret (decide (0<=n)&&cC (xs.length+n.toNat) te.bytes&&decide (n<=9223372036854775807), .own tH,oh b++[(db tH, .o (.row e ex (xs++aN te.ks n.toNat)))])else .fail
 |_,_=> .fail
def TW(E:fS)(e:aC)(x:AV):Rd (az (aC×eR)):=
 match x with
 | .own nm=>(jI nm).bind λ
  | .row e' ex xs=>(sO E e).bind λte=>bif bD e e'&&plain te.ks then .ret [(db nm, .o (.row e' ex (aN te.ks xs.length)))]else .fail
  |_=> .fail
 | .vw nm lo hi=>(jI nm).bind λ
  | .row e' ex xs=>(sO E e).bind λte=>bif bD e e'&&plain te.ks then .ret [(db nm, .o (.row e' ex (xs.take lo++aN te.ks (hi-lo)++xs.drop hi)))]else .fail
  |_=> .fail
 | .nl=> .ret []
 |_=> .fail
def il(mx:aY)(a b:aw):aw:=bif mx then(if b>a then b else a)else(if b<a then b else a)
def xZ(mx:aY):az dx->nh->aw->Rd AV
 |[],k,a=> .ret (.i k a)
 |x::r,k,a=>(DR x).bind λ(_,b)=>xZ mx r k (il mx a b)
end Go.FG

namespace Go.FG
inductive Src where
 |own (nm e:aC) (ex:aY)|no
structure Pk where
 a:AA
 src:Src
 rd:az aC
def Bw(E:fS)(mt:aY)(a:AV):Rd Pk:=
 match a with
 | .i k n=> .ret ⟨.i k n, .no,[]⟩| .b x=> .ret ⟨.b x, .no,[]⟩| .s x=> .ret ⟨.s x, .no,[]⟩
 | .sh e xs=> .ret ⟨.sh e xs, .no,[]⟩
 | .nl=> .ret ⟨.nl, .no,[]⟩
 | .fn f iQ=> .ret ⟨.fn f iQ, .no,[]⟩
 | .own nm=>(jI nm).bind λ
  | .row e ex xs=>bif mt then .ret ⟨.ow e ex xs, .own nm e ex,[]⟩else .ret ⟨.sh e xs, .no,[nm]⟩
  | .fV e xs=> .ret ⟨.sh e xs, .no,[]⟩
  |_=> .fail
 | .vw nm lo hi=>bif mt then .fail else(jI nm).bind λ
  | .row e _ xs=> .ret ⟨.sh e (e8 xs lo hi), .no,[nm]⟩
  | .fV e xs=> .ret ⟨.sh e (e8 xs lo hi), .no,[]⟩
  |_=> .fail
 | .mU nm i j=>(jI nm).bind λ
  | .row e ai xs=>(sO E e).bind λte=>match te.ks[j]? with
   |some (.l e2)=>(sO E e2).bind λt2=>bif plain t2.ks&& !mt then .ret ⟨.sh e2 (gD (ar xs i j)), .no,[nm]⟩else .fail
   |_=> .fail
  |_=> .fail
 |_=> .fail
def DZ(E:fS)(mt:aY):az AV->Rd (az Pk)
 |[]=> .ret []
 |a::r=>(Bw E mt a).bind λp=>(DZ E mt r).bind λl=> .ret (p::l)
structure Pa where
 arg:fj
 box:ay (aC×az AV)
 cs:az Pk
def agA(E:fS)(mt:aY)(x:SV):Rd Pa:=
 match x with
 | .v ak [.bp nm 0]=>bif mt then(jI nm).bind λ
   | .box xs=>(DZ E ai xs).bind λl=> .ret ⟨.pt (l.map (·.a)),ah (nm,xs),l⟩
   |_=> .fail
  else .fail
 | .v agg xs=>(DZ E mt xs).bind λl=> .ret ⟨.v agg (l.map (·.a)),aj,l⟩
 |_=> .fail
def aaw:Ck->AV->AV
 | .l e, .nl=> .sh e []
 |_,a=>a
def DK:az Ck->az AV->az AV
 |k::ks,a::r=>aaw k a::DK ks r
 |_,r=>r
def nlz(E:Tab)(t:ay aC)(v:SV):SV:=
 match t with
 |none=>v
 |some t=>match E.ty t,v with
  |some ti, .v g xs=> .v g (DK ti.ks xs)
  |_,v=>v
def TJ(E:fS)(f:aC)(RK:ay (az aC)):aC->az dx->Rd (az Pa)
 |_,[]=> .ret []
 |p,x::r=>(IC x).bind λv=>(agA E (E.mode f p) (bif E.mode f p then v else nlz E (match RK with|some l=>l[p]? |none=>aj) v)).bind λa=>bif fL a.cs.length 100 then(TJ E f RK (p+1) r).bind λl=> .ret (a::l)else .fail
def Pk.uC(p:Pk):az aC:=match p.src with| .own nm _ _=>[nm]| .no=>[]
def Pa.uC(p:Pa):az aC:=(match p.box with|some (nm,_)=>[nm]|none=>[])++p.cs.flatMap (·.uC)
def Pa.nH(p:Pa):az aC:=p.cs.flatMap (·.rd)
def tI:az aC->aY
 |[]=>ai|n::r=> !mC n r&&tI r
def rH:az aC->az aC->aY
 |[],_=>ai|n::r,l=> !mC n l&&rH r l
def rJ(ok:aY)(nm:aC)(a:AA):Rd (AV×az (aC×eR)):=
 match a with
 | .i k n=> .ret (.i k n,[])| .b x=> .ret (.b x,[])| .s x=> .ret (.s x,[])| .nl=> .ret (.nl,[])
 | .sh e xs=>bif ok then .ret (.sh e xs,[])else .fail
 | .ow e ex xs=>bif ex||ok then(fresh nm).bind λ_=> .ret (.own nm,[(db nm, .o (.row e ex xs))])else .fail
 |_=> .fail
def Co(ok:aY):aC->az AA->Rd (az AV×az (aC×eR))
 |_,[]=> .ret ([],[])
 |nm,a::r=>(rJ ok nm a).bind λ(v,w)=>(Co ok (nm+1) r).bind λ(vs,ws)=> .ret (v::vs,w++ws)
def HY(ok:aY)(nm:aC)(a:fj):Rd ((aY×az AV)×az (aC×eR)):=
 match a with
 | .v agg xs=>(Co ok nm xs).bind λ(vs,ws)=> .ret ((agg,vs),ws)
 | .pt xs=>(Co ok nm xs).bind λ(vs,ws)=>(fresh (nm+30)).bind λ_=> .ret ((ak,[.bp (nm+30) 0]),ws++[(db (nm+30), .o (.box vs))])
 | .fb _=> .fail
def Dc(ok:aY):aC->az fj->Rd (az (aY×az AV)×az (aC×eR))
 |_,[]=> .ret ([],[])
 |nm,a::r=>(HY ok nm a).bind λ(v,w)=>(Dc ok (nm+40) r).bind λ(vs,ws)=> .ret (v::vs,w++ws)
def Gx(ok:aY)(p:Pk)(a:AA):Rd (az (aC×eR)):=
 match p.src,a with
 | .no,_=> .ret []
 | .own nm e ex, .kp xs=>bif ex||ok then .ret [(db nm, .o (.row e ex xs))]else .fail
 | .own nm _ _, .nl=> .ret [(db nm, .o .dead)]
 |_,_=> .fail
def MT(ok:aY):az Pk->az AA->Rd (az (aC×eR))
 |[],_=> .ret []
 |p::r,l=>(Gx ok p (l.headD .nl)).bind λw=>(MT ok r l.tail).bind λws=> .ret (w++ws)
def DU(ok:aY)(nm:aC)(p:Pk)(v:AV)(a:AA):Rd (AV×az (aC×eR)):=
 match p.src,a with
 | .own n e ex, .kp xs=>bif ex||ok then .ret (v,[(db n, .o (.row e ex xs))])else .fail
 | .own n _ _,a=>(rJ ok nm a).bind λ(v,w)=> .ret (v,(db n, .o .dead)::w)
 | .no,a=>rJ ok nm a
def rT(ok:aY):aC->az Pk->az AV->az AA->Rd (az AV×az (aC×eR))
 |_,[],[],[]=> .ret ([],[])
 |nm,p::ps,v::vs,a::as=>(DU ok nm p v a).bind λ(v,w)=>(rT ok (nm+1) ps vs as).bind λ(vs,ws)=> .ret (v::vs,w++ws)
 |_,_,_,_=> .fail
def VT(ok:aY)(nm:aC)(p:Pa)(l:az AA):Rd (az (aC×eR)):=
 match p.box with
 |some (n,vs)=>(rT ok nm p.cs vs l).bind λ(vs,ws)=> .ret (ws++[(db n, .o (.box vs))])
 |none=>MT ok p.cs l
def MS(ok:aY):aC->az Pa->az (az AA)->Rd (az (aC×eR))
 |_,[],_=> .ret []
 |nm,p::r,l=>(VT ok nm p (l.headD [])).bind λw=>(MS ok (nm+40) r l.tail).bind λws=> .ret (w++ws)
def sw:az (aY×az AV)->SV
 |[(agg,xs)]=> .v agg xs
 |l=> .j_ l
def nr:fj->aC| .v _ xs=>xs.length| .pt xs=>xs.length| .fb _=>0
def Ub:az aC->Rd (az (aC×eR))
 |[]=> .ret []
 |n::r=>(jI n).bind λ
  | .row e _ xs=>(Ub r).bind λws=> .ret ((db n, .o (.fV e xs))::ws)
  |_=> .fail
def H2(E:fS)(nm:aC)(o:fB)(f:aC)(args:az dx)(RK:ay (az aC))(iQ:az (az CV)):Rd sV:=
 (TJ E f RK 0 args).bind λps=>
  bif tI (ps.flatMap (·.uC))&&rH (ps.flatMap (·.uC)) (ps.flatMap (·.nH))then
   match E.call f (ps.map (·.arg)++iQ.map fj.fb)with
   |some (c,r)=>bif fL ps.length 400&&(r.rs.all λa=>fL (nr a) 30)&&(r.outs.all λa=>fL a.length 100)then(Ub (bif E.tk nm then ps.flatMap (·.nH)else [])).bind λw0=>
    (MS (E.tk nm||(ps.flatMap (·.nH)).isEmpty) (nm+400) ps r.outs).bind λw1=>(Dc (E.tk nm||(ps.flatMap (·.nH)).isEmpty) (nm+1) r.rs).bind λ(vs,w2)=>
    bif tI ((w1++w2).map (·.1))then .ret ⟨c,w0++(w1++w2)++dw o (sw vs)⟩else .fail else .fail
   |none=> .fail
  else .fail
def Rd.or{α:Type}:Rd α->Rd α->Rd α
 | .ret a,_=> .ret a
 | .fail,y=>y
 | .get k f,y=> .get k λc=>(f c).or y
def Oh(E:fS)(nm:aC)(o:fB)(f:aC)(args:az dx)(RK:az aC)(iQ:az (az CV)):Rd sV:=
 (H2 E nm o f args aj iQ).or (H2 E nm o f args (ah RK) iQ)
def DC(E:fS)(o:fB)(f n i j:aC)(y:dx):Rd sV:=
 (DR y).bind λ(k,m)=>(jI n).bind λ
  | .row e ai xs=>(sO E e).bind λte=>match te.ks[j]? with
   |some (.l e2)=>match E.call f [.v ak [.ow e2 ai (gD (ar xs i j))], .v ak [.i k m]]with
    |some (c,r)=>match r.rs,r.outs with
     |[.v ak [.i k2 m2]],[[.kp ys]]=> .ret ⟨c,(db n, .o (.row e ai (cK xs i j [.l e2 ys])))::dw o (.v ak [.i k2 m2])⟩
     |_,_=> .fail
    |none=> .fail
   |_=> .fail
  |_=> .fail
def TR:az dx->Rd (az (az CV)×az (aC×eR))
 |[]=> .ret ([],[])
 |x::r=>(rS x).bind λ
  | .bp nm 0=>(jI nm).bind λ
   | .box xs=>(agH xs).bind λcs=>(TR r).bind λ(l,ws)=> .ret (cs::l,(db nm, .o (.n5 cs))::ws)
   | .n5 cs=>(TR r).bind λ(l,ws)=> .ret (cs::l,ws)
   |_=> .fail
  |_=> .fail
where agH:az AV->Rd (az CV)
 |[]=> .ret []
 |a::r=>(agH r).bind λl=>match a with
  | .i k n=> .ret (.i k n::l)| .b x=> .ret (.b x::l)| .s x=> .ret (.s x::l)
  | .sh e xs=> .ret (.l e xs::l)
  |_=> .fail
def l_(E:fS)(nm:aC)(o:fB):Rd sV:=
 match o.op with
 | .move x| .assign x=>(IC x).bind λv=>val o v
 | .nilCheck x=>(rS x).bind λp=>match p with
  | .bp nm j=>val o (.v ak [.bp nm j])
  | .rp nm i j=>val o (.v ak [.rp nm i j])
  |_=> .fail
 | .pick c a b=>(rS c).bind λc=>(IC a).bind λa=>(IC b).bind λb=>
  match c,a,b with
  | .b c, .v ak [.b p], .v ak [.b q]=>Bg o (.b (bif c then p else q))
  | .b c, .j_ [],b=> .ret ⟨!c,dw o b⟩
  | .b c,a, .j_ []=> .ret ⟨c,dw o a⟩
  |_,_,_=> .fail
 | .alloc t=>(sO E t).bind λti=>bif ML ti.ks then(fresh nm).bind λ_=> .ret ⟨ai,(db nm, .o (.box (ti.ks.map Em)))::dw o (.v ak [.bp nm 0])⟩else .fail
 | .box t x=>(IC x).bind λ
  | .v _ xs=>(fresh nm).bind λ_=> .ret ⟨ai,(db nm, .o (.box xs))::dw o (.v ak [.bp nm 0])⟩
  |_=> .fail
 | .build t ps=>(sO E t).bind λti=>bif ML ti.ks&&ti.agg then(ID E t ps.toList).bind λl=>val o (.v ai (OA (ti.ks.map Em) l))else .fail
 | .buildSlice t n ps=>(sO E t).bind λti=>match ti.agg,ti.ks with
  |false,[.l e]=>(sO E e).bind λte=>bif ML te.ks then(Ow ps.toList).bind λex=>(L0 (ex&&flat E te.ks) te.ks ps.toList (aN te.ks n)).bind λ(xs,w)=>(fresh nm).bind λ_=>
   .ret ⟨fL (n*te.ks.length) 16777216&&tI (w.map (·.1)),w++(db nm, .o (.row e (ex&&flat E te.ks) xs))::dw o (.v ak [.own nm])⟩else .fail
  |_,_=> .fail
 | .load t p=>(sO E t).bind λti=>(rS p).bind λp=>(tE E ti p).bind λxs=>val o (.v ti.agg xs)
 | .store t p x=>(sO E t).bind λti=>(rS p).bind λp=>(IC x).bind λ
  | .v _ ys=>bif bD ys.length ti.ks.length then(W5 E p ys).bind λw=> .ret ⟨ai,w++dw o .un⟩else .fail
  |_=> .fail
 | .fieldAddr t p f=>(rS p).bind λp=>(T3 E t f p).bind λq=>Bg o q
 | .field t x f=>(IC x).bind λ
  | .v ai xs=>match E.fo t f with
   |some (j,n)=>bif E.T9 t f&&bD n 1 then(match xs.drop j with|a::_=>Bg o a|[]=> .fail)else .fail
   |none=> .fail
  |_=> .fail
 | .indexAddr t x i=>(pX E t).bind λ
  | .l e=>(rS x).bind λx=>(DR i).bind λ(_,n)=>(Ux E e x n).bind λ(c,q)=>Ng o c q
  |_=> .fail
 | .index t x i=>(pX E t).bind λk=>(rS x).bind λx=>(DR i).bind λ(_,n)=>match k,x with
  | .s, .s a=>Ng o (decide (0<=n)&&decide (n<(a.size:aw))) (.i .u8 ((a.data.getD n.toNat 0).toNat:aw))
  |_,_=> .fail
 | .binOp op t x y _=>(IC x).bind λx=>(IC y).bind λy=>(agF E t op x y).bind λ(c,v)=>Ng o c v
 | .unOp op _ x=>(rS x).bind λx=>match op,x with
  | .not, .b x=>Bg o (.b (!x))
  | .neg, .i k n=>Bg o (.i k (k.wrap (0-n)))
  |_,_=> .fail
 | .convert src dst x=>(pX E src).bind λks=>(pX E dst).bind λkd=>(rS x).bind λx=>match kd,ks,x with
  | .i k, .i _, .i _ n=>Bg o (.i k (k.wrap n))
  | .s, .s, .s a=>Bg o (.s a)
  | .s, .l e', .nl=>(sO E e').bind λte=>bif u8s te.ks&& !te.agg then Bg o (.s ⟨#[]⟩)else .fail
  | .s, .l e',a=>(mv E a).bind λ(e,xs)=>(sO E e).bind λte=>bif bD e e'&&u8s te.ks&& !te.agg then Ng o (decide (xs.length<=4611686018427387904)) (.s (bytesOf xs))else .fail
  |_,_,_=> .fail
 | .makeSlice t l c=>(DR l).bind λ(_,n)=>(DR c).bind λ(_,m)=>(sO E t).bind λti=>match ti.agg,ti.ks with
  |false,[.l e]=>(sO E e).bind λte=>bif ML te.ks&&flat E te.ks then(fresh (bif plain te.ks then nm else nm+999)).bind λ_=> .ret ⟨decide (0<=n)&&decide (n=m)&&cC n.toNat te.bytes,(db (bif plain te.ks then nm else nm+999), .o (.row e ai (aN te.ks n.toNat)))::dw o (.v ak [.own (bif plain te.ks then nm else nm+999)])⟩else .fail
  |_,_=> .fail
 | .slice t x lo hi mx=>match mx with
  |some _=> .fail
  |none=>(pX E t).bind λk=>(rS x).bind λx=>(M4 E k x lo hi).bind λ(c,v)=>Ng o c v
 | .extract x i=>(IC x).bind λ
  | .j_ l=>match l[i]? with|some (agg,xs)=>val o (.v agg xs)|none=> .fail
  |_=> .fail
 | .makeFunc (.func f) first iQ=>bif first.isEmpty then(TR iQ.toList).bind λ(l,ws)=> .ret ⟨ai,ws++dw o (.v ak [.fn f l])⟩else .fail
 | .call c=>match c.callee with
  | .builtin .len=>match c.args.toList,c.argTypes.toList with
   |[x],[t]=>(pX E t).bind λk=>(rS x).bind λx=>(ahL E k x).bind λn=>Bg o (.i .i64 n)
   |_,_=> .fail
  | .builtin .cap=>match c.args.toList,c.argTypes.toList with
   |[x],[t]=>(pX E t).bind λ| .l _=>((rS x).bind λ| .nl=>Bg o (.i .i64 0)|_=> .fail)|_=> .fail
   |_,_=> .fail
  | .builtin .min=>match c.args.toList with
   |x::r=>(DR x).bind λ(k,n)=>(xZ ak r k n).bind λv=>Bg o v
   |_=> .fail
  | .builtin .max=>match c.args.toList with
   |x::r=>(DR x).bind λ(k,n)=>(xZ ai r k n).bind λv=>Bg o v
   |_=> .fail
  | .builtin .clear=>match c.args.toList with
   |[x]=>match c.argTypes.toList with
    |[t]=>(pX E t).bind λ| .l e=>((rS x).bind λx=>(TW E e x).bind λw=> .ret ⟨ai,w++dw o (.j_ [])⟩)|_=> .fail
    |_=> .fail
   |_=> .fail
  | .builtin .append=>match c.args.toList,c.argTypes.toList with
   |[s,x],[t,u]=>(pX E u).bind λku=>(rS s).bind λs=>(rS x).bind λx=>match ku,x with
    | .i _, .i _ n=>(Xm E nm t s n).bind λ(b,v,w)=> .ret ⟨b,w++dw o (.v ak [v])⟩
    | .l _,x=>(HV E nm t s x).bind λ(b,v,w)=> .ret ⟨b,w++dw o (.v ak [v])⟩
    | .s,x=>(HV E nm t s x).bind λ(b,v,w)=> .ret ⟨b,w++dw o (.v ak [v])⟩
    |_,_=> .fail
   |_,_=> .fail
  | .value f=>(rS f).bind λ
   | .fn f iQ=>match c.args.toList,iQ with
    |[x,y],[]=>(IC x).bind λ
     | .v ak [.mU n i j]=>bif E.mode f 0 then DC E o f n i j y else Oh E nm o f c.args.toList c.argTypes.toList iQ
     |_=>Oh E nm o f c.args.toList c.argTypes.toList iQ
    |_,_=>Oh E nm o f c.args.toList c.argTypes.toList iQ
   |_=> .fail
  |_=> .fail
 |_=> .fail
inductive Ex where
 |normal|exit (id:aC)|ret
structure Lg where
 rs:az aC
 ws:az aC
def OH{R:Type}(a:AV)(f:AV->R):R:=
 match a with
 | .i k n=>f (.i k n)| .b x=>f (.b x)| .s x=>f (.s x)| .sh e xs=>f (.sh e xs)| .nl=>f .nl| .own n=>f (.own n)| .vw n lo hi=>f (.vw n lo hi)
 | .bp n j=>f (.bp n j)| .rp n i j=>f (.rp n i j)| .sp e xs i j=>f (.sp e xs i j)| .mU n i j=>f (.mU n i j)| .ip n i j i2 j2=>f (.ip n i j i2 j2)| .fn g iQ=>f (.fn g iQ)| .fp xs j=>f (.fp xs j)
def H8{R:Type}(a:aY)(f:aY->R):R:=match a with|true=>f ai|false=>f ak
def pj{R:Type}:az AV->(az AV->R)->R
 |[],f=>f []|a::r,f=>OH a λa=>pj r λr=>f (a::r)
def H_{R:Type}:az (aY×az AV)->(az (aY×az AV)->R)->R
 |[],f=>f []|(g,xs)::r,f=>H8 g λg=>pj xs λxs=>H_ r λr=>f ((g,xs)::r)
def H9{R:Type}(v:SV)(f:SV->R):R:=
 match v with
 | .v g xs=>H8 g λg=>pj xs λxs=>f (.v g xs)| .j_ l=>H_ l λl=>f (.j_ l)| .un=>f .un
def Md{R:Type}(o:Obj)(f:Obj->R):R:=
 match o with
 | .box xs=>pj xs λxs=>f (.box xs)| .n5 cs=>f (.n5 cs)| .row e ex xs=>H8 ex λex=>f (.row e ex xs)| .fV e xs=>f (.fV e xs)| .dead=>f .dead
def Mc{R:Type}(c:eR)(f:eR->R):R:=
 match c with
 | .v x=>H9 x λx=>f (.v x)| .o x=>Md x λx=>f (.o x)| .jZ=>f .jZ
def Dt{R:Type}:az (aC×eR)->(az (aC×eR)->R)->R
 |[],f=>f []|(k,c)::r,f=>Mc c λc=>Dt r λr=>f ((k,c)::r)
theorem Mb{R:Type}(a:AV)(f:AV->R):OH a f=f a:=by cases a<;>rfl
theorem AG{R:Type}(a:aY)(f:aY->R):H8 a f=f a:=by cases a<;>rfl
theorem nR{R:Type}:∀(l:az AV) (f:az AV->R),pj l f=f l
 |[],_=>rfl
 |a::r,f=>by simp only[pj,Mb,nR r]
theorem Gf{R:Type}:∀(l:az (aY×az AV)) (f:az (aY×az AV)->R),H_ l f=f l
 |[],_=>rfl
 |(g,xs)::r,f=>by simp only[H_,AG,nR,Gf r]
theorem Me{R:Type}(v:SV)(f:SV->R):H9 v f=f v:=by cases v<;>simp only[H9,AG,nR,Gf]
theorem Qy{R:Type}(v:Obj)(f:Obj->R):Md v f=f v:=by cases v<;>simp only[Md,AG,nR]
theorem Qx{R:Type}(v:eR)(f:eR->R):Mc v f=f v:=by cases v<;>simp only[Mc,Me,Qy]
theorem Gg{R:Type}:∀(l:az (aC×eR)) (f:az (aC×eR)->R),Dt l f=f l
 |[],_=>rfl
 |(k,c)::r,f=>by simp only[Dt,Qx,Gg r]
def ops{R:Type}(E:fS)(all:dp fB)(n9:aC):aC->az fB->St->az Lg->(St->az Lg->ay R)->ay R
 |_,[],σ,lg,K=>K σ lg
 |i,o::rest,σ,lg,K=>match o.guard with
  |none=>match (l_ E ((n9+1)*1000000+i*1000) o).run σ []with
   |some (e,l)=>bif e.cond then Dt e.ws (λws=>ops E all n9 (i+1) rest (wr σ ws) (⟨l,ws.map (·.1)⟩::lg) K)else aj
   |none=>aj
  |some (g,want)=>match (all.getD g default).dst with
   |none=>aj
   |some d=>match σ (qn d)with
    | .v (.v ak [.b x])=>
     let perform:=λy=>match (l_ E ((n9+1)*1000000+i*1000) o).run (pM σ (qn d) (.v (.v ak [.b y]))) []with
      |some (e,l)=>bif e.cond then Dt e.ws (λws=>ops E all n9 (i+1) rest (wr (pM σ (qn d) (.v (.v ak [.b y]))) ws) (⟨qn d::l,ws.map (·.1)⟩::lg) K)else aj
      |none=>aj
     let skip:=λy=>ops E all n9 (i+1) rest (wr (pM σ (qn d) (.v (.v ak [.b y]))) (dw o (.j_ []))) (⟨[qn d],(dw o (.j_ [])).map (·.1)⟩::lg) K
     bif x then(bif want then perform ai else skip ai)else(bif want then skip ak else perform ak)
    | .v (.j_ [])=>ops E all n9 (i+1) rest (wr σ (dw o (.j_ []))) (⟨[qn d],(dw o (.j_ [])).map (·.1)⟩::lg) K
    |_=>aj
def ddA(acc:az aC):az aC->az aC
 |[]=>acc|n::r=>bif mC n acc then ddA acc r else ddA (n::acc) r
def mQ{R:Type}:az aC->(az aC->R)->R
 |[],f=>f []|n::r,f=>mQ r λr=>f (n::r)
def Cx{R:Type}:az (az aC)->(az (az aC)->R)->R
 |[],f=>f []|n::r,f=>mQ n λn=>Cx r λr=>f (n::r)
theorem oQ{R:Type}:∀(l:az aC) (f:az aC->R),mQ l f=f l
 |[],_=>rfl
 |n::r,f=>by simp only[mQ,oQ r]
theorem Ds{R:Type}:∀(l:az (az aC)) (f:az (az aC)->R),Cx l f=f l
 |[],_=>rfl
 |n::r,f=>by simp only[Cx,oQ,Ds r]
theorem H3:∀(l acc:az aC) (x:aC),x∈ddA acc l->x∈acc\/x∈l
 |[],_,_,h=> .inl h
 |n::r,acc,x,h=>by
  unfold ddA at h;cases hb:mC n acc with
  |true=>
   rw[hb]at h;rcases H3 r acc x h with h|h
   ·exact .inl h
   ·exact .inr (c9 _ h)
  |false=>
   rw[hb]at h;rcases H3 r (n::acc) x h with h|h
   ·rcases cB.1 h with rfl|h
    ·exact .inr dL
    ·exact .inl h
   ·exact .inr (c9 _ h)
def HU:az (az aC)->az fB->az (az aC)
 |acc,[]=>acc
 |acc,o::r=>mQ (ddA [] (o.after.toList.flatMap λe=>bif mI .any e then e.on::acc.getD e.on []else [])) λx=>HU (acc++[x]) r
def KF:aC->az fB->aY
 |_,[]=>ai
 |i,o::r=>(o.after.toList.all λe=> !Region.binds .any e||Nat.blt e.on i)&&KF (i+1) r
def Dh(a b:Lg):aY:= !(rH a.ws b.ws&&rH a.ws b.rs&&rH b.ws a.rs)
def Cr(an:az aC)(j:aC)(a:Lg):aC->az Lg->aY
 |_,[]=>ai
 |i,b::r=>(mC i an|| !Dh a b)&&Cr an j a (i+1) r
def calm:aC->az (az aC)->az Lg->az Lg->aY
 |_,_,_,[]=>ai
 |j,an,done,a::r=>Cr (an.getD j []) j a 0 done&&calm (j+1) an (done++[a]) r
def Cw{R:Type}:az Lg->(az Lg->R)->R
 |[],f=>f []|a::r,f=>mQ a.rs λrs=>mQ a.ws λws=>Cw r λr=>f (⟨rs,ws⟩::r)
theorem Dr{R:Type}:∀(l:az Lg) (f:az Lg->R),Cw l f=f l
 |[],_=>rfl
 |n::r,f=>by simp only[Cw,oQ,Dr r]
def Oi(an:az (az aC))(l:az Lg):aY:=Cx an λan=>Cw l λl=>calm 0 an [] l
theorem TQ(an:az (az aC))(l:az Lg):Oi an l=calm 0 an [] l:=by simp only[Oi,Ds,Dr]
def bN:AV->az aC
 | .own n=>[n]| .vw n _ _=>[n]| .bp n _=>[n]| .rp n _ _=>[n]| .mU n _ _=>[n]| .ip n _ _ _ _=>[n]|_=>[]
def cM:SV->az aC
 | .v _ xs=>xs.flatMap bN| .j_ l=>l.flatMap λ(_,xs)=>xs.flatMap bN| .un=>[]
def Yh:az aC->az aC->az aC
 |l,[]=>l
 |l,n::r=>mQ (bif mC n l then l else l++[n]) λl=>Yh l r
def slot(σ:St)(n:aC):SV:=match σ (qn n)with| .v x=>x|_=> .un
def amo(σ:St)(nm:aC):az aC:=match σ (db nm)with| .o (.box xs)=>xs.flatMap bN|_=>[]
def idx(n:aC):aC->az aC->ay aC
 |_,[]=>aj|i,m::r=>bif bD n m then ah i else idx n (i+1) r
def enc(f:aY)(k:aC):aC:=bif f then k*1000+999 else k
def wF(l:az aC)(n:aC):ay aC:=bif fL 900000000 n then(bif mC n l then ah n else aj)else(match idx n 0 l with|some k=>ah (enc (AO n) k)|none=>aj)
def p8(l:az aC)(a:AV):AV:=
 match a with
 | .own n=>match wF l n with|some k=> .own k|none=> .nl
 | .vw n lo hi=>match wF l n with|some k=> .vw k lo hi|none=> .nl
 | .bp n j=>match wF l n with|some k=> .bp k j|none=> .nl
 | .rp n i j=>match wF l n with|some k=> .rp k i j|none=> .nl
 | .mU n i j=>match wF l n with|some k=> .mU k i j|none=> .nl
 | .ip n i j i2 j2=>match wF l n with|some k=> .ip k i j i2 j2|none=> .nl
 |a=>a
def AQ(l:az aC)(ns:az aC):aY:=ns.all λn=>mC n l
def GA(l:az aC)(v:SV):SV:=
 bif AQ l (cM v)then(match v with
 | .v agg xs=> .v agg (xs.map (p8 l))| .j_ r=> .j_ (r.map λ(g,xs)=>(g,xs.map (p8 l)))| .un=> .un)else .un
def Q_(l:az aC)(o:eR):eR:=
 match o with
 | .o (.box xs)=>bif AQ l (xs.flatMap bN)then .o (.box (xs.map (p8 l)))else .o .dead
 | .o x=> .o x
 |_=> .o .dead
def fN:az (aC×eR)->St
 |[],_=> .jZ
 |(k,c)::r,n=>bif bD n k then c else fN r n
def wD(σ:St)(l:az aC):az aC->az (aC×eR)
 |[]=>[]|n::r=>match wF l n with|some k=>(db k,Q_ l (σ (db n)))::wD σ l r|none=>wD σ l r
def LU(keep:az aC)(σ:St):az aC:=
 mQ (Yh [] (keep.flatMap λn=>cM (slot σ n))) λl0=>mQ (Yh l0 (l0.flatMap (amo σ))) λl1=>Yh l1 (l1.flatMap (amo σ))
def LS(keep:az aC)(σ:St)(l:az aC):az (aC×eR):=
 bif fL l.length 900 then keep.map (λn=>(qn n, .v (GA l (slot σ n))))++wD σ l l else []
def Za(x:aC):aY:=fL 1000000000000000 x
def adw(x:aC):aC:=(x/1000000)%1000000000
def UP(x:aC):aC:=(x/1000)%1000
def kTy(x:aC):aC:=x%1000
def kNm(x:aC):aC:=800000000+((x/1000)%1000000)*100
def Bv{α:Type}(x:aC)(σ:St)(f:St->α):α:=
 match slot σ (adw x)with
 | .v ak [.bp nm 0]=>match σ (db nm),σ (db (kNm x))with
  | .o (.box xs), .jZ=>match xs[UP x]? with
   |some .nl=>pj (xs.set (UP x) (.own (kNm x))) λys=>f (pM (pM σ (db nm) (.o (.box ys))) (db (kNm x)) (.o (.row (kTy x) ai [])))
   |_=>f σ
  |_,_=>f σ
 |_=>f σ
def O4{α:Type}:az aC->St->(St->α)->α
 |[],σ,f=>f σ
 |x::r,σ,f=>bif Za x then Bv x σ (λσ=>O4 r σ f)else O4 r σ f
def LV(keep:az aC)(σ:St):az (aC×eR):=O4 keep σ λσ=>mQ (keep.filter λx=> !Za x) λkeep=>mQ (LU keep σ) λl=>LS keep σ l
def canon(keep:az aC)(σ:St):St:=fN (LV keep σ)
def fS.Bt(E:fS)(n:aC):az aC:=(E.keep n).filter λx=>bif Za x then(match E.ty (kTy x)with|some _=>ai|none=>ak)else ai
def gH:Code->aC
 | .region id _ _=>id| .seq a _=>gH a| .block _ c=>gH c| .scope c=>gH c|_=>0
def Gn{R:Type}(g:St->ay R)(cn:St->St)(K:Ex->St->ay R):Ex->St->ay R
 | .normal,σ=>g (cn σ)
 |e,σ=>K e (cn σ)
def iter{R:Type}(f:St->(Ex->St->ay R)->ay R)(cn:St->St):aC->St->(Ex->St->ay R)->ay R
 |0,_,_=>aj
 |n+1,σ,K=>f σ (Gn (λs=>iter f cn n s K) cn K)
theorem QN{R:Type}(f:St->(Ex->St->ay R)->ay R)(cn:St->St)(n:aC)(σ:St)(K:Ex->St->ay R):iter f cn (n+1) σ K=f σ (Gn (λs=>iter f cn n s K) cn K):=rfl
abbrev It(R:Type):=aC->(St->(Ex->St->ay R)->ay R)->(St->St)->az (aC×eR)->(Ex->St->ay R)->ay R
def aAN{R:Type}(n:aC):It R:=λ_ f cn L K=>iter f cn n (fN L) K
def azy{R:Type}(f:St->(Ex->St->ay R)->ay R)(K:Ex->St->ay R):Ex->St->ay R
 | .normal,σ=>f σ K
 |e,σ=>K e σ
def auW{R:Type}(id:aC)(K:Ex->St->ay R):Ex->St->ay R
 | .exit j,σ=>bif bD j id then K .normal σ else K (.exit j) σ
 |e,σ=>K e σ
def tq{R:Type}(E:fS)(it:It R):Code->St->(Ex->St->ay R)->ay R
 | .skip,σ,K=>K .normal σ
 | .region id os draw,σ,K=>ops E os id 0 os.toList σ [] λσ lg=>bif !draw||(KF 0 os.toList&&Oi (HU [] os.toList) lg.reverse)then K .normal σ else aj
 | .seq a b,σ,K=>tq E it a σ (azy (tq E it b) K)
 | .cond c a b,σ,K=>match c with
  | .tmp t=>match σ (qn t)with
   | .v (.v ak [.b x])=>bif x then(tq E it a (pM σ (qn t) (.v (.v ak [.b ai]))) K)else(tq E it b (pM σ (qn t) (.v (.v ak [.b ak]))) K)
   |_=>aj
  |_=>aj
 | .block id c,σ,K=>tq E it c σ (auW id K)
 | .loop c,σ,K=>it (gH c) (tq E it c) (canon (E.Bt (gH c))) (LV (E.Bt (gH c)) σ) K
 | .exit id,σ,K=>K (.exit id) σ
 | .ret,σ,K=>K .ret σ
 |_,_,_=>aj
def jV:Code->az Code
 | .seq a b=>jV a++jV b
 | .cond _ a b=>jV a++jV b
 | .block _ c=>jV c
 | .loop c=>c::jV c
 |_=>[]
def DD(n9:aC):Code->ay Code
 | .seq a b=>match DD n9 a with|some r=>ah r|none=>DD n9 b
 | .cond _ a b=>match DD n9 a with|some r=>ah r|none=>DD n9 b
 | .block _ c=>DD n9 c
 | .loop c=>bif bD (gH c) n9 then ah c else DD n9 c
 |_=>aj
def bM(F:Func)(n9:aC):Code:=((F.body.bind (DD n9)).getD .skip)
end Go.FG

namespace Go.FG
def dX(p j:aC):aC:=900000000+p*1000+j
def lk(nm:aC)(a:AA):AV:=
 match a with
 | .i k n=> .i k n| .b x=> .b x| .s x=> .s x| .sh e xs=> .sh e xs| .nl=> .nl
 | .ow _ _ _=> .own nm| .kp _=> .nl| .fn f iQ=> .fn f iQ
def Gm(nm:aC)(a:AA):az (aC×eR):=match a with| .ow e ex xs=>[(db nm, .o (.row e ex xs))]|_=>[]
def gE(nm:aC):az AA->az AV
 |[]=>[]|a::r=>lk nm a::gE (nm+1) r
def tB(nm:aC):az AA->az (aC×eR)
 |[]=>[]|a::r=>Gm nm a++tB (nm+1) r
def tC(p:aC)(a:fj):SV:=
 match a with
 | .v agg xs=> .v agg (gE (dX p 0) xs)
 | .pt _=> .v ak [.bp (dX p 900) 0]
 | .fb xs=> .v ak [.fp xs 0]
def vu(p:aC)(a:fj):az (aC×eR):=
 match a with
 | .v _ xs=>tB (dX p 0) xs
 | .pt xs=>(db (dX p 900), .o (.box (gE (dX p 0) xs)))::tB (dX p 0) xs
 | .fb _=>[]
def Mz:aC->az fj->az (aC×eR)
 |_,[]=>[]|p,a::r=>(qn p, .v (tC p a))::vu p a++Mz (p+1) r
def inj(args:az fj):St:=fN (Mz 0 args)
def Bs(E:fS)(e:aC):aY:=match E.ty e with|some _=>ai|none=>ak
def Br(E:fS)(om:Om)(σ:St)(k:Ck)(a:AV):ay (AA×az aC×az aC):=
 match a with
 | .i k n=>ah (.i k n,[],[])| .b x=>ah (.b x,[],[])| .s x=>ah (.s x,[],[])
 | .sh e xs=>match om with| .own _=>aj|_=>ah (.sh e xs,[],[])
 | .nl=>match om with
  | .own e=>bif Bs E e then ah (.ow e ai [],[],[])else aj
  | .sh e=>ah (.sh e [],[],[])
  | .nat=>match k with| .l e=>bif Bs E e then ah (.ow e ai [],[],[])else aj|_=>ah (.nl,[],[])
 | .own nm=>match σ (db nm)with
  | .o (.row e ex xs)=>match om with| .sh _=>ah (.sh e xs,[],[nm])|_=>ah (.ow e ex xs,[nm],[])
  | .o (.fV e xs)=>match om with| .own _=>aj|_=>ah (.sh e xs,[],[])
  |_=>aj
 | .vw nm lo hi=>match σ (db nm)with
  | .o (.row e ex xs)=>match om with| .sh _=>ah (.sh e (e8 xs lo hi),[],[nm])|_=>ah (.ow e ex (e8 xs lo hi),[nm],[])
  | .o (.fV e xs)=>match om with| .own _=>aj|_=>ah (.sh e (e8 xs lo hi),[],[])
  |_=>aj
 |_=>aj
def tu(E:fS)(q:aC)(σ:St):aC->az Ck->az AV->ay (az AA×az aC×az aC)
 |_,_,[]=>ah ([],[],[])
 |j,ks,a::r=>match Br E (E.om q j) σ (ks.headD .o) a,tu E q σ (j+1) ks.tail r with
  |some (x,l,m),ah (xs,ls,ms)=>ah (x::xs,l++ls,m++ms)
  |_,_=>aj
def OC(E:fS)(q:aC)(σ:St)(ks:az Ck)(v:SV):ay (fj×az aC×az aC):=
 match v with
 | .v ak [.bp nm 0]=>match σ (db nm)with
  | .o (.box xs)=>match tu E q σ 0 [] xs with|some (l,ns,ms)=>ah (.pt l,nm::ns,ms)|none=>aj
  |_=>aj
 | .v agg xs=>match tu E q σ 0 ks xs with|some (l,ns,ms)=>ah (.v agg l,ns,ms)|none=>aj
 |_=>aj
def Wc(E:fS)(q:aC)(σ:St)(r:ResultVar)(t:aC):ay (fj×az aC×az aC):=
 match E.ty t with
 |none=>aj
 |some ti=>match r with
  | .tmp s=>OC E q σ ti.ks (slot σ s)
  | .cell a t'=>match E.ty t',slot σ a with
   |some W9, .v ak [.bp nm 0]=>match σ (db nm)with| .o (.box xs)=>bif bD xs.length W9.ks.length then OC E q σ ti.ks (.v W9.agg xs)else aj|_=>aj
   |_,_=>aj
def D3(E:fS)(σ:St):aC->az ResultVar->az aC->ay (az fj×az aC×az aC)
 |_,[],_=>ah ([],[],[])
 |q,r::rs,ts=>match Wc E q σ r (ts.headD 0),D3 E σ (q+1) rs ts.tail with
  |some (a,l,m),ah (as,ls,ms)=>ah (a::as,l++ls,m++ms)
  |_,_=>aj
def KS(a b:aY):aY:=bif a then b else !b
def nu(σ:St)(tk:az aC)(nm:aC)(a:AA):AA×az aC:=
 match a with
 | .ow e ex _=>bif mC nm tk then(.nl,[])else(match σ (db nm)with| .o (.row e' uv xs)=>bif bD e e'&&KS ex uv then(.kp xs,[nm])else(.nl,[])|_=>(.nl,[]))
 |_=>(.nl,[])
def pW(σ:St)(tk:az aC)(nm:aC):az AA->az AA×az aC
 |[]=>([],[])|a::r=>((nu σ tk nm a).1::(pW σ tk (nm+1) r).1,(nu σ tk nm a).2++(pW σ tk (nm+1) r).2)
def ab_(E:fS)(om:Om)(σ:St)(nm:aC)(b:AA)(a:AV):ay (AA×az aC×az aC):=
 match om,b,a with
 | .nat, .ow e ex _, .own n=>bif bD n nm then(match σ (db n)with| .o (.row e' uv xs)=>bif bD e e'&&KS ex uv then ah (.kp xs,[n],[])else aj|_=>aj)else Br E om σ .o a
 |_,_,a=>Br E om σ .o a
def HZ(E:fS)(q:aC)(σ:St):aC->az AA->az AV->ay (az AA×az aC×az aC)
 |_,_,[]=>ah ([],[],[])
 |j,bs,a::r=>match ab_ E (E.om q j) σ (dX q j) (bs.headD .nl) a,HZ E q σ (j+1) bs.tail r with
  |some (x,l,m),ah (xs,ls,ms)=>ah (x::xs,l++ls,m++ms)
  |_,_=>aj
def Ue:az AA->aY
 |[]=>ak| .ow _ _ _::_=>ai|_::r=>Ue r
def DW(E:fS)(σ:St)(tk:az aC):aC->az fj->ay (az (az AA)×az aC×az aC)
 |_,[]=>ah ([],[],[])
 |p,a::r=>match DW E σ tk (p+1) r with
  |none=>aj
  |some (l,ns,ms)=>match a with
   | .v _ xs=>bif Ue xs then ah ((pW σ tk (dX p 0) xs).1::l,(pW σ tk (dX p 0) xs).2++ns,ms)else ah ([]::l,ns,ms)
   | .pt xs=>match σ (db (dX p 900))with
    | .o (.box vs)=>match HZ E p σ 0 xs vs with|some (as,ns',ms')=>ah (as::l,dX p 900::(ns'++ns),ms'++ms)|none=>aj
    |_=>aj
   | .fb _=>ah ([]::l,ns,ms)
def ur:az (az AA)->az (az AA)
 |[]=>[]
 |x::r=>match x,ur r with|[],[]=>[]|x,r=>x::r
def fin(E:fS)(F:Func)(args:az fj)(e:Ex)(σ:St):ay dj:=
 match e with
 | .exit _=>aj
 |_=>match D3 E σ 500 F.results.toList F.resultTypes.toList with
  |some (rs,tk,fz)=>match DW E σ (tk++fz) 0 args with
   |some (outs,ns,ms)=>bif tI (tk++ns)&&rH (tk++ns) (fz++ms)&&fL args.length 500&&(args.all λa=>fL (nr a) 100)&&(rs.all λa=>fL (nr a) 100)&&(outs.all λa=>fL a.length 100)then ah ⟨rs,ur outs⟩else aj
   |none=>aj
  |none=>aj
def body(E:fS)(it:It dj)(F:Func)(args:az fj):ay dj:=
 match F.body with
 |some c=>tq E it c (inj args) (fin E F args)
 |none=>aj
end Go.FG

namespace Go.FG
structure Pl where
 nil:aY
 blk:aC
 off:aC
 cap:aC
 n:aC
 sz:aC
def lO(p:Pl):bn:=if p.nil=ai then .slice aj 0 0 else .slice (ah ⟨p.blk,p.off,aj⟩) p.n p.cap
def nV(w:bJ)(b:aC)(vals:dp bn):Prop:=
 ∃t fr,w.heap[b]? =ah (.cells vals t fr)/\∀o,o<=vals.size->(decide (fr.1<=o)&&decide (o<fr.2))=ak
def Rj:CV->bn
 | .i k n=> .int k n| .b x=> .bool x| .s x=> .string x| .l _ _=> .nilIface
def CD(x:aq):Prop:=x.size<=4611686018427387904
def okC:CV->Prop
 | .s x=>CD x|_=>True
def Sc(u:bn)(x:CV):Prop:=u=Rj x/\okC x
structure e9 where
 P:aC->Pl
 G:aC->aC->aC->Pl
 K:aC->Prop
abbrev ad(b o:aC):Addr:=⟨b,o,aj⟩
inductive dg (E:Tab) (w:bJ) (K:aC->Prop):bn->CV->Prop
 |i (k n):dg E w K (.int k n) (.i k n)
 |b (x):dg E w K (.bool x) (.b x)
 |s (x) (h:CD x):dg E w K (.string x) (.s x)
 |nl (e A c):dg E w K (.slice A 0 c) (.l e [])
 |l (e xs b o c ti) (U:aC->aC->bn) (ht:E.ty e=ah ti) (hc:xs.length<=c) (hm:c<=maxLen) (hK:K b) (hs:∀y∈xs,y.map CV.kd=ti.ks)
  (hcell:∀i j y x,xs[i]? =ah y->y[j]? =ah x->w.cell? (ad b (o+i*ti.ks.length+j))=ah (U i j))
  (fP:∀i j y x,xs[i]? =ah y->y[j]? =ah x->dg E w K (U i j) x):dg E w K (.slice (ah (ad b o)) xs.length c) (.l e xs)
theorem nV.cell{w:bJ}{b:aC}{vals:dp bn}(h:nV w b vals)(o:aC):w.cell? (ad b o)=vals[o]? :=by obtain⟨t,fr,h,_⟩:=h;simp[World.cell?,h]
theorem nV.lt{w:bJ}{b:aC}{vals:dp bn}(h:nV w b vals):b<w.heap.size:=by obtain⟨t,fr,h,_⟩:=h;exact(dY.1 h).1
theorem nV.free{w:bJ}{b:aC}{vals:dp bn}(h:nV w b vals){o:aC}(ho:o<vals.size):w.frozen? (ad b o)=false:=by obtain⟨t,fr,h,hf⟩:=h;have:=hf o (Nat.le_of_lt ho);simpa [World.frozen?,h]using this
theorem nV.frame{w w':bJ}{b:aC}{vals:dp bn}(h:nV w b vals)(e:w'.heap[b]? =w.heap[b]?):nV w' b vals:=by obtain⟨t,fr,h,hf⟩:=h;exact⟨t,fr,e.trans h,hf⟩
theorem dg.frame{E:Tab}{w w':bJ}{K K':aC->Prop}{v:bn}{x:CV}(h:dg E w K v x)(hw:∀b,K b->w'.heap[b]? =w.heap[b]?)(hK:∀b,K b->K' b):dg E w' K' v x:=by
 induction h with
 |i=>exact .i _ _
 |b=>exact .b _
 |s x h=>exact .s _ h
 |nl=>exact .nl _ _ _
 |l e xs b o c ti U ht hc hm hKb hs hcell fP ih=>exact .l e xs b o c ti U ht hc hm (hK b hKb) hs (λi j y x h1 h2=>(uQ (a:=ad b _) (hw b hKb)).trans (hcell i j y x h1 h2)) (λi j y x h1 h2=>ih i j y x h1 h2)
structure jg (w:bJ) (p:Pl) (xs:aQ) (R:aC->aC->bn->CV->Prop):Prop where
 n:p.n=xs.length
 nil:p.nil=ai->xs=[]/\p.cap=0
 mem:p.nil=ak->∃vals,nV w p.blk vals/\p.n<=p.cap/\p.cap<=maxLen/\p.off+p.cap*p.sz<=vals.size/\
  ∀(i:aC) (y:az CV) (j:aC) (x:CV),xs[i]? =ah y->y[j]? =ah x->∃u:bn,vals[p.off+i*p.sz+j]? =ah u/\R i j u x
def XC(E:Tab)(w:bJ)(G:aC->aC->Pl)(i j:aC)(u:bn):CV->Prop
 | .l e ys=>u=lO (G i j)/\∃ti,E.ty e=ah ti/\plain ti.ks=ai/\(G i j).sz=ti.ks.length/\(∀y∈ys,y.map CV.kd=ti.ks)/\jg w (G i j) ys (λ_ _ u x=>Sc u x)
 |x=>Sc u x
def uz:CV->aY| .l _ _=>ai|_=>ak
def gp(xs:aQ)(i j:aC):Prop:=∃y x,xs[i]? =ah y/\y[j]? =ah x/\uz x=ai
structure G2 (p:Pl) (G:aC->aC->Pl) (xs:aQ):Prop where
 out:∀i j,gp xs i j->(G i j).nil=ak->p.nil=ak->(G i j).blk≠p.blk
 one:∀i j i' j',gp xs i j->gp xs i' j'->(G i j).nil=ak->(G i' j').nil=ak->(G i j).blk=(G i' j').blk->i=i'/\j=j'
structure NY (E:Tab) (w:bJ) (c:e9) (nm e:aC) (ex:aY) (xs:aQ):Prop where
 sh:∃ti,E.ty e=ah ti/\(c.P nm).sz=ti.ks.length/\∀y∈xs,y.map CV.kd=ti.ks
 at_:jg w (c.P nm) xs (λi j u x=>if ex=ai then XC E w (c.G nm) i j u x else dg E w c.K u x)
 mU:ex=ai->G2 (c.P nm) (c.G nm) xs
def FB(E:Tab)(w:bJ)(K:aC->Prop)(b:aC)(cs:az CV):Prop:=
 K b/\∀(q:aC) (x:CV),cs[q]? =ah x->∃u:bn,w.cell? (ad b q)=ah u/\dg E w K u x
def xE(p:Pl)(lo hi:aC)(v:bn):Prop:=
 lo<=hi/\hi<=p.n/\(p.nil=ai->v= .slice aj 0 0)/\
 (p.nil=ak->(lo<p.cap/\v= .slice (ah (ad p.blk (p.off+lo*p.sz))) (hi-lo) (p.cap-lo))\/(lo=p.cap/\∃o,o<=p.off+p.cap*p.sz/\v= .slice (ah (ad p.blk o)) 0 0))
def eL(E:Tab)(w:bJ)(c:e9):AV->bn->Prop
 | .i k n,v=>v= .int k n
 | .b x,v=>v= .bool x
 | .s x,v=>v= .string x/\CD x
 | .sh e xs,v=>dg E w c.K v (.l e xs)
 | .nl,v=>v= .slice aj 0 0
 | .own nm,v=>v=lO (c.P nm)
 | .vw nm lo hi,v=>xE (c.P nm) lo hi v
 | .bp nm j,v=>v= .pointer (ah (ad (c.P nm).blk j))
 | .rp nm i j,v=>i<(c.P nm).n/\v= .pointer (ah (ad (c.P nm).blk ((c.P nm).off+i*(c.P nm).sz+j)))
 | .sp e xs i j,v=>∃b o cp ti,dg E w c.K (.slice (ah (ad b o)) xs.length cp) (.l e xs)/\i<xs.length/\E.ty e=ah ti/\v= .pointer (ah (ad b (o+i*ti.ks.length+j)))
 | .mU nm i j,v=>(i<(c.P nm).n/\v=lO (c.G nm i j))/\AO nm=ak
 | .ip nm i j i2 j2,v=>(i<(c.P nm).n/\i2<(c.G nm i j).n/\v= .pointer (ah (ad (c.G nm i j).blk ((c.G nm i j).off+i2*(c.G nm i j).sz+j2))))/\AO nm=ak
 | .fn f iQ,v=>∃ps:dp bn,v= .func (.func f) #[] ps/\ps.size=iQ.length/\∀(q:aC) (cs:az CV),iQ[q]? =ah cs->∃b:aC,ps[q]? =ah (.pointer (ah (ad b 0)))/\FB E w c.K b cs
 | .fp cs j,v=>∃b,v= .pointer (ah (ad b j))/\FB E w c.K b cs
def qi(E:Tab)(w:bJ)(c:e9)(agg:aY)(xs:az AV)(v:bn):Prop:=
 match agg,xs with
 |false,[a]=>eL E w c a v
 |true,xs=>∃vals:dp bn,v= .agg vals/\vals.size=xs.length/\∀(j:aC) (a:AV),xs[j]? =ah a->∃u:bn,vals[j]? =ah u/\eL E w c a u
 |_,_=>False
def jh(E:Tab)(w:bJ)(c:e9):SV->bn->Prop
 | .v agg xs,v=>qi E w c agg xs v
 | .j_ l,v=>∃vs:dp bn,v= .tuple vs/\vs.size=l.length/\∀(j:aC) (agg:aY) (xs:az AV),l[j]? =ah (agg,xs)->∃u:bn,vs[j]? =ah u/\qi E w c agg xs u
 | .un,_=>True
def pR(E:Tab)(w:bJ)(c:e9)(nm:aC):Obj->Prop
 | .box xs=>∃vals,nV w (c.P nm).blk vals/\vals.size=xs.length/\∀(j:aC) (a:AV),xs[j]? =ah a->∃u:bn,vals[j]? =ah u/\eL E w c a u
 | .n5 cs=>FB E w c.K (c.P nm).blk cs
 | .row e ex xs=>NY E w c nm e ex xs
 | .fV e xs=>dg E w c.K (lO (c.P nm)) (.l e xs)/\(c.P nm).n=xs.length/\∃ti,E.ty e=ah ti/\(c.P nm).sz=ti.ks.length
 | .dead=>True
def fM(c:e9)(nm:aC):Obj->aC->Prop
 | .box _,b=>b=(c.P nm).blk
 | .row _ ex xs,b=>((c.P nm).nil=ak/\b=(c.P nm).blk)\/(ex=ai/\∃i j,gp xs i j/\(c.G nm i j).nil=ak/\b=(c.G nm i j).blk)
 |_,_=>False
def wW(σ:St)(c:e9)(b:aC):Prop:=∃nm o,σ (db nm)= .o o/\fM c nm o b
def jf(σ:St)(a:AV):Prop:=∀n∈bN a,σ (db n)≠ .jZ
def mJ(σ:St)(v:SV):Prop:=∀n∈cM v,σ (db n)≠ .jZ
structure Ok (E:Tab) (σ:St) (w:bJ) (c:e9):Prop where
 obj:∀nm o,σ (db nm)= .o o->pR E w c nm o
 sep:∀nm o x_ o' b,σ (db nm)= .o o->σ (db x_)= .o o'->fM c nm o b->fM c x_ o' b->nm=x_
 kk:∀nm o b,σ (db nm)= .o o->fM c nm o b->¬c.K b
 lt:∀b,c.K b->b<w.heap.size
 kn:∀nm xs,σ (db nm)= .o (.box xs)->∀a∈xs,jf σ a
structure fC (E:Tab) (σ:St) (a:Act) (w:bJ) (c:e9):Prop where
 ok:∀n,jh E w c (slot σ n) (a.eval (.tmp n))
 kn:∀n,mJ σ (slot σ n)
 df:a.defers=[]
def jz(σ:St)(c c':e9):Prop:=∀nm,(σ (db nm)≠ .jZ\/900000000<=nm)->c'.P nm=c.P nm/\c'.G nm=c.G nm
def qV(σ:St)(c c':e9):Prop:=∀nm,(σ (db nm)≠ .jZ\/900000000<=nm)->c'.P nm=c.P nm/\(AO nm=ak->c'.G nm=c.G nm)
theorem jz.w{σ:St}{c c':e9}(h:jz σ c c'):qV σ c c':=λnm hn=>⟨(h nm hn).1,λ_=>(h nm hn).2⟩
structure ot (σ:St) (c:e9) (w:bJ) (σ':St) (c':e9) (w':bJ):Prop where
 os:w'.os=w.os
 tape:w'.tape=w.tape
 output:w'.output=w.output
 size:w.heap.size<=w'.heap.size
 K:∀b,c.K b->c'.K b
 same:∀b,b<w.heap.size->¬wW σ c b->w'.heap[b]? =w.heap[b]?
 own:∀b,wW σ' c' b->wW σ c b\/w.heap.size<=b
 kn:∀b,c'.K b->c.K b\/wW σ c b\/w.heap.size<=b
theorem wW.lt{E:Tab}{σ:St}{w:bJ}{c:e9}(h:Ok E σ w c){b:aC}(ho:wW σ c b):b<w.heap.size:=by
 obtain⟨nm,o,h1,h2⟩:=ho;have mS:=h.obj nm o h1;cases o with
 |box xs=>obtain⟨vals,hb,_⟩:=mS;cases h2;exact hb.lt
 |n5=>exact h2.elim
 |fV=>exact h2.elim
 |dead=>exact h2.elim
 |row e ex xs=>
  rcases h2 with ⟨hn,rfl⟩|⟨hex,i,j,⟨y,x,hy,hx,hl⟩,hn,rfl⟩
  ·obtain⟨vals,hb,_⟩:=mS.at_.mem hn;exact hb.lt
  ·by_cases hp:(c.P nm).nil=ai
   ·have:=(mS.at_.nil hp).1;subst this;simp at hy
   ·obtain⟨vals,hb,_,_,_,hc⟩:=mS.at_.mem (by simpa using hp);obtain⟨u,_,hu⟩:=hc i y j x hy hx;rw[bB hex]at hu;cases x with
    |l e2 ys=>obtain⟨_,ti,_,_,_,_,hr⟩:=hu;obtain⟨v2,Ew,_⟩:=hr.mem hn;exact Ew.lt
    |i=>simp[uz]at hl
    |b=>simp[uz]at hl
    |s=>simp[uz]at hl
theorem Ok.KB{E:Tab}{σ:St}{w:bJ}{c:e9}(h:Ok E σ w c){b:aC}(ho:wW σ c b):¬c.K b:=by obtain⟨nm,o,h1,h2⟩:=ho;exact h.kk nm o b h1 h2
theorem ot.refl(σ:St)(c:e9)(w:bJ):ot σ c w σ c w:=
 ⟨rfl,rfl,rfl,cJ _,λ_ h=>h,λ_ _ _=>rfl,λ_ h=> .inl h,λ_ h=> .inl h⟩
theorem ot.trans{σ σ1 σ2:St}{c c1 c2:e9}{w w1 w2:bJ}(h:ot σ c w σ1 c1 w1)(k:ot σ1 c1 w1 σ2 c2 w2):ot σ c w σ2 c2 w2 where
 os:=k.os.trans h.os
 tape:=k.tape.trans h.tape
 output:=k.output.trans h.output
 size:=dc h.size k.size
 K b hb:=k.K b (h.K b hb)
 same b hb hn:=(k.same b (js hb h.size) (λho=>(h.own b ho).elim hn (λh=>by omega))).trans (h.same b hb hn)
 own b hb:=(k.own b hb).elim (h.own b) (λh1=> .inr (dc h.size h1))
 kn b hb:=by
  rcases k.kn b hb with h1|h1|h1
  ·exact h.kn b h1
  ·exact .inr (h.own b h1)
  ·exact .inr (.inr (dc h.size h1))
theorem ot.abB{E:Tab}{σ σ':St}{c c':e9}{w w':bJ}(cj:Ok E σ w c)(h:ot σ c w σ' c' w'):∀b,c.K b->w'.heap[b]? =w.heap[b]? :=
 λb hb=>h.same b (cj.lt b hb) (λho=>cj.KB ho hb)
theorem FB.frame{E:Tab}{w w':bJ}{K K':aC->Prop}{b:aC}{cs:az CV}(h:FB E w K b cs)(hw:∀b,K b->w'.heap[b]? =w.heap[b]?)(hK:∀b,K b->K' b):FB E w' K' b cs:=
 ⟨hK b h.1,λq x hq=>by
  obtain⟨u,hu,hh⟩:=h.2 q x hq;exact⟨u,(uQ (a:=ad b q) (hw b h.1)).trans hu,hh.frame hw hK⟩⟩
theorem eL.pk{E:Tab}{w w':bJ}{c c':e9}{a:AV}{v:bn}(h:eL E w c a v)(hw:∀b,c.K b->w'.heap[b]? =w.heap[b]?)(hK:∀b,c.K b->c'.K b)
  (hP:∀n∈bN a,c'.P n=c.P n/\(AO n=ak->c'.G n=c.G n)):eL E w' c' a v:=by
 cases a with
 |i=>exact h
 |b=>exact h
 |s=>exact h
 |nl=>exact h
 |sh e xs=>exact dg.frame h hw hK
 |own n=>have:=hP n (by simp[bN]);simp only[eL,this.1]at h⊢;exact h
 |vw n lo hi=>have:=hP n (by simp[bN]);simp only[eL,this.1]at h⊢;exact h
 |bp n j=>have:=hP n (by simp[bN]);simp only[eL,this.1]at h⊢;exact h
 |rp n i j=>have:=hP n (by simp[bN]);simp only[eL,this.1]at h⊢;exact h
 |mU n i j=>have h0:=hP n (by simp[bN]);have this:=h0.2 h.2;simp only[eL,h0.1,this]at h⊢;exact h
 |ip n i j i2 j2=>have h0:=hP n (by simp[bN]);have this:=h0.2 h.2;simp only[eL,h0.1,this]at h⊢;exact h
 |sp e xs i j=>obtain⟨b,o,cp,ti,h1,h2,h3,h4⟩:=h;exact⟨b,o,cp,ti,h1.frame hw hK,h2,h3,h4⟩
 |fn f iQ=>obtain⟨ps,h1,h2,h3⟩:=h;exact⟨ps,h1,h2,λq cs hq=>by obtain⟨b,hb,hf⟩:=h3 q cs hq;exact⟨b,hb,hf.frame hw hK⟩⟩
 |fp cs j=>obtain⟨b,h1,h2⟩:=h;exact⟨b,h1,h2.frame hw hK⟩
theorem qi.pk{E:Tab}{w w':bJ}{c c':e9}{agg:aY}{xs:az AV}{v:bn}(h:qi E w c agg xs v)(hw:∀b,c.K b->w'.heap[b]? =w.heap[b]?)(hK:∀b,c.K b->c'.K b)
  (hP:∀n∈xs.flatMap bN,c'.P n=c.P n/\(AO n=ak->c'.G n=c.G n)):qi E w' c' agg xs v:=by
 unfold qi at h⊢;split at h
 ·rename_i a;exact eL.pk h hw hK (λn hn=>hP n (by simpa using hn))
 ·obtain⟨vals,h1,h2,h3⟩:=h;refine⟨vals,h1,h2,λj a hj=> ?_⟩
  obtain⟨u,hu,hv⟩:=h3 j a hj;exact⟨u,hu,hv.pk hw hK (λn hn=>hP n (bL.2 ⟨a,aR hj,hn⟩))⟩
 ·exact h.elim
theorem jh.pk{E:Tab}{w w':bJ}{c c':e9}{s:SV}{v:bn}(h:jh E w c s v)(hw:∀b,c.K b->w'.heap[b]? =w.heap[b]?)(hK:∀b,c.K b->c'.K b)
  (hP:∀n∈cM s,c'.P n=c.P n/\(AO n=ak->c'.G n=c.G n)):jh E w' c' s v:=by
 cases s with
 |un=>trivial
 |v agg xs=>exact qi.pk h hw hK hP
 |j_ l=>
  obtain⟨vs,h1,h2,h3⟩:=h;refine⟨vs,h1,h2,λj agg xs hj=> ?_⟩
  obtain⟨u,hu,hv⟩:=h3 j agg xs hj;exact⟨u,hu,hv.pk hw hK (λn hn=>hP n (bL.2 ⟨(agg,xs),aR hj,hn⟩))⟩
theorem eL.frame{E:Tab}{w w':bJ}{c c':e9}{a:AV}{v:bn}(h:eL E w c a v)(hw:∀b,c.K b->w'.heap[b]? =w.heap[b]?)(hK:∀b,c.K b->c'.K b)
  (hP:∀n∈bN a,c'.P n=c.P n/\c'.G n=c.G n):eL E w' c' a v:=h.pk hw hK (λn hn=>⟨(hP n hn).1,λ_=>(hP n hn).2⟩)
theorem qi.frame{E:Tab}{w w':bJ}{c c':e9}{agg:aY}{xs:az AV}{v:bn}(h:qi E w c agg xs v)(hw:∀b,c.K b->w'.heap[b]? =w.heap[b]?)(hK:∀b,c.K b->c'.K b)
  (hP:∀n∈xs.flatMap bN,c'.P n=c.P n/\c'.G n=c.G n):qi E w' c' agg xs v:=h.pk hw hK (λn hn=>⟨(hP n hn).1,λ_=>(hP n hn).2⟩)
theorem jh.frame{E:Tab}{w w':bJ}{c c':e9}{s:SV}{v:bn}(h:jh E w c s v)(hw:∀b,c.K b->w'.heap[b]? =w.heap[b]?)(hK:∀b,c.K b->c'.K b)
  (hP:∀n∈cM s,c'.P n=c.P n/\c'.G n=c.G n):jh E w' c' s v:=h.pk hw hK (λn hn=>⟨(hP n hn).1,λ_=>(hP n hn).2⟩)
theorem jg.frame{w w':bJ}{p:Pl}{xs:aQ}{R R':aC->aC->bn->CV->Prop}(h:jg w p xs R)(hw:p.nil=ak->w'.heap[p.blk]? =w.heap[p.blk]?)
  (hR:∀i j y x u,xs[i]? =ah y->y[j]? =ah x->R i j u x->R' i j u x):jg w' p xs R' where
 n:=h.n
 nil:=h.nil
 mem hn:=by
  obtain⟨vals,h1,h2,h3,h4,h5⟩:=h.mem hn;refine⟨vals,h1.frame (hw hn),h2,h3,h4,λi y j x hi hj=> ?_⟩
  obtain⟨u,hu,hr⟩:=h5 i y j x hi hj;exact⟨u,hu,hR i j y x u hi hj hr⟩
theorem XC.frame{E:Tab}{w w':bJ}{G:aC->aC->Pl}{i j:aC}{u:bn}{x:CV}(h:XC E w G i j u x)(hw:uz x=ai->(G i j).nil=ak->w'.heap[(G i j).blk]? =w.heap[(G i j).blk]?):XC E w' G i j u x:=by
 cases x with
 |l e ys=>obtain⟨h1,ti,h2,h3,h4,h5,h6⟩:=h;exact⟨h1,ti,h2,h3,h4,h5,h6.frame (hw rfl) (λ_ _ _ _ _ _ _ h=>h)⟩
 |i=>exact h
 |b=>exact h
 |s=>exact h
theorem pR.frame{E:Tab}{w w':bJ}{c c':e9}{nm:aC}{o:Obj}(h:pR E w c nm o)(hw:∀b,c.K b->w'.heap[b]? =w.heap[b]?)(hK:∀b,c.K b->c'.K b)
  (hf:∀b,fM c nm o b->w'.heap[b]? =w.heap[b]?) (hP:c'.P nm=c.P nm/\c'.G nm=c.G nm)
  (hPs:∀xs,o= .box xs->∀a∈xs,∀n∈bN a,c'.P n=c.P n/\(AO n=ak->c'.G n=c.G n)):pR E w' c' nm o:=by
 cases o with
 |dead=>trivial
 |box xs=>
  obtain⟨vals,h1,h2,h3⟩:=h;refine⟨vals, ?_,h2,λj a hj=> ?_⟩
  ·rw[hP.1];exact h1.frame (hf _ rfl)
  ·obtain⟨u,hu,hv⟩:=h3 j a hj;exact⟨u,hu,hv.pk hw hK (hPs xs rfl a (aR hj))⟩
 |n5 cs=>show FB E w' c'.K (c'.P nm).blk cs;rw[hP.1];exact FB.frame h hw hK
 |fV e xs=>
  obtain⟨h1,h2,h3⟩:=h;refine⟨?_, ?_, ?_⟩
  ·rw[hP.1];exact h1.frame hw hK
  ·rw[hP.1];exact h2
  ·rw[hP.1];exact h3
 |row e ex xs=>
  obtain⟨h1,h2,h3⟩:=h;refine⟨by rw[hP.1];exact h1, ?_,by rw[hP.1,hP.2];exact h3⟩
  rw[hP.1,hP.2];refine h2.frame (λhn=>hf _ (.inl ⟨hn,rfl⟩)) (λi j y x u hi hj hr=> ?_);by_cases hx:ex=ai
  ·rw[bB hx]at hr⊢;exact hr.frame (λhl hn=>hf _ (.inr ⟨hx,i,j,⟨y,x,hi,hj,hl⟩,hn,rfl⟩))
  ·rw[bH hx]at hr⊢;exact hr.frame hw hK
end Go.FG

namespace Go.FG
theorem t_(s:St)(k:aC)(c:eR):pM s k c k=c:=by simp[pM]
theorem Bf(s:St){k n:aC}(c:eR)(h:n≠k):pM s k c n=s n:=by
 have:bD n k=false:=by
  cases hb:bD n k with
  |false=>rfl
  |true=>exact cS (aU hb) h
 simp[pM,this]
theorem rX(n m:aC):qn n≠db m:=by unfold qn db;omega
theorem mh(n m:aC):db n≠qn m:=by unfold qn db;omega
theorem IU{n m:aC}(h:qn n=qn m):n=m:=by unfold qn at h;omega
theorem jW{n m:aC}(h:db n=db m):n=m:=by unfold db at h;omega
theorem K3(s:St)(d:aC)(c:eR)(m:aC):pM s (qn d) c (db m)=s (db m):=Bf s c (mh m d)
theorem p_(s:St)(n:aC)(c:eR)(m:aC):pM s (db n) c (db m)=if m=n then c else s (db m):=by
 by_cases h:m=n
 ·subst h;simp[t_]
 ·rw[bH h];exact Bf s c (λe=>h (jW e))
theorem jl(s:St)(n:aC)(c:eR)(m:aC):slot (pM s (db n) c) m=slot s m:=by unfold slot;rw[Bf s c (rX m n)]
theorem yP(s:St)(d:aC)(v:SV)(m:aC):slot (pM s (qn d) (.v v)) m=if m=d then v else slot s m:=by
 by_cases h:m=d
 ·subst h;simp[slot,t_]
 ·rw[bH h];unfold slot;rw[Bf s _ (λe=>h (IU e))]
theorem Rp(s:St)(l r:az (aC×eR)):wr s (l++r)=wr (wr s l) r:=by
 induction l generalizing s with
 |nil=>rfl
 |cons a l ih=>obtain⟨k,c⟩:=a;exact ih _
def Rd.val{α:Type}(m:Rd α)(σ:St):ay α:=(m.run σ []).map (·.1)
theorem lh{α:Type}(m:Rd α)(σ:St):∀l,(m.run σ l).map (·.1)=m.val σ:=by
 induction m with
 |ret a=>intro l;rfl
 |fail=>intro l;rfl
 |get k f ih=>intro l;simp only[Rd.run,Rd.val];rw[ih,ih]
theorem Rd.Ni{α:Type}{m:Rd α}{σ:St}{l l':az aC}{a:α}(h:m.run σ l=ah (a,l')):m.val σ=ah a:=by rw[<-lh m σ l,h];rfl
@[simp] theorem Rd.aqt {α:Type} (a:α) (σ:St):(Rd.ret a).val σ=some a:=rfl
@[simp] theorem Rd.apl {α:Type} (σ:St):(Rd.fail:Rd α).val σ=none:=rfl
@[simp] theorem Rd.CK {α:Type} (k:Nat) (f:eR->Rd α) (σ:St):(Rd.get k f).val σ=(f (σ k)).val σ:=by
 simp only[Rd.val,Rd.run];exact(lh (f (σ k)) σ [k])
@[simp] theorem Rd.Xc {α β:Type} (m:Rd α) (f:α->Rd β) (σ:St):(m.bind f).val σ=(m.val σ).bind λa=>(f a).val σ:=by
 induction m with
 |ret a=>rfl
 |fail=>rfl
 |get k g ih=>simp only[Rd.bind,Rd.CK];exact ih _
theorem Rd.bind_some{α β:Type}{m:Rd α}{f:α->Rd β}{σ:St}{b:β}(h:(m.bind f).val σ=ah b):∃a,m.val σ=ah a/\(f a).val σ=ah b:=by rw[Rd.Xc,Option.bind_eq_some_iff]at h;exact h
theorem cR{α:Type}{b:aY}{m:Rd α}{σ:St}{a:α}(h:(bif b then m else Rd.fail).val σ=ah a):b=ai/\m.val σ=ah a:=by
 cases b with
 |true=>exact⟨rfl,h⟩
 |false=>simp at h
def j5(Ch:aC->Prop)(σ:St)(c:e9)(b:aC):Prop:=∃nm o,Ch nm/\σ (db nm)= .o o/\fM c nm o b
theorem j5.own{Ch:aC->Prop}{σ:St}{c:e9}{b:aC}(h:j5 Ch σ c b):wW σ c b:=by obtain⟨nm,o,_,h1,h2⟩:=h;exact⟨nm,o,h1,h2⟩
theorem mf{c c':e9}{nm:aC}{o:Obj}(h:c'.P nm=c.P nm/\c'.G nm=c.G nm)(b:aC):fM c' nm o b=fM c nm o b:=by cases o<;>simp only[fM,h.1,h.2]
theorem Ok.xH{E:Tab}{σ σ':St}{w w':bJ}{c c':e9}(h:Ok E σ w c)(Ch:aC->Prop)
  (hσ:∀nm,¬Ch nm->σ' (db nm)=σ (db nm)) (iy:∀nm,σ (db nm)≠ .jZ->σ' (db nm)≠ .jZ) (hA:qV σ c c') (hAG:∀nm,¬Ch nm->σ (db nm)≠ .jZ->c'.G nm=c.G nm)
  (hW:∀b,b<w.heap.size->¬j5 Ch σ c b->w'.heap[b]? =w.heap[b]?) (fZ:w.heap.size<=w'.heap.size)
  (hK:∀b,c.K b->c'.K b) (XH:∀b,c'.K b->c.K b\/j5 Ch σ c b\/w.heap.size<=b) (Ih:∀b,c'.K b->b<w'.heap.size)
  (mS:∀nm o,Ch nm->σ' (db nm)= .o o->pR E w' c' nm o)
  (pV:∀nm o b,Ch nm->σ' (db nm)= .o o->fM c' nm o b->(j5 Ch σ c b\/w.heap.size<=b)/\¬c'.K b)
  (Uq:∀nm o x_ o' b,Ch nm->Ch x_->σ' (db nm)= .o o->σ' (db x_)= .o o'->fM c' nm o b->fM c' x_ o' b->nm=x_)
  (Kf:∀nm xs,Ch nm->σ' (db nm)= .o (.box xs)->∀a∈xs,jf σ' a)
  (QJ:w'.os=w.os) (Ur:w'.tape=w.tape) (ahk:w'.output=w.output):Ok E σ' w' c'/\ot σ c w σ' c' w':=by
 have O7:∀nm o b,¬Ch nm->σ (db nm)= .o o->fM c nm o b->¬j5 Ch σ c b:=by intro nm o b hc ho hf ⟨iE,o2,hc2,ho2,hf2⟩;exact hc (h.sep nm o iE o2 b ho ho2 hf hf2▸hc2)
 have agr:∀nm o,¬Ch nm->σ' (db nm)= .o o->σ (db nm)= .o o/\(c'.P nm=c.P nm/\c'.G nm=c.G nm):=by intro nm o hc ho;rw[hσ nm hc]at ho;exact⟨ho,(hA nm (.inl (by rw[ho];simp))).1,hAG nm hc (by rw[ho];simp)⟩
 have ame:∀b,c.K b->w'.heap[b]? =w.heap[b]? :=λb hb=>hW b (h.lt b hb) (λhi=>h.KB hi.own hb);have lt:∀nm o b,σ (db nm)= .o o->fM c nm o b->b<w.heap.size:=λnm o b ho hf=>wW.lt h ⟨nm,o,ho,hf⟩;refine⟨⟨?_, ?_, ?_,Ih, ?_⟩,⟨QJ,Ur,ahk,fZ,hK, ?_, ?_, ?_⟩⟩
 ·intro nm o ho;by_cases hc:Ch nm
  ·exact mS nm o hc ho
  ·obtain⟨vt,ha⟩:=agr nm o hc ho;refine(h.obj nm o vt).frame ame hK (λb hb=>hW b (lt nm o b vt hb) (O7 nm o b hc vt hb)) ha ?_;intro xs hx a hm n hn;exact hA n (.inl (h.kn nm xs (hx▸vt) a hm n hn))
 ·intro nm o x_ o' b ho vt hf vn;by_cases hc:Ch nm
  ·by_cases Ka:Ch x_
   ·exact Uq nm o x_ o' b hc Ka ho vt hf vn
   ·obtain⟨h1,ha⟩:=agr x_ o' Ka vt;rw[mf ha]at vn;rcases(pV nm o b hc ho hf).1 with hi|hi
    ·exact cS hi (O7 x_ o' b Ka h1 vn)
    ·have:=lt x_ o' b h1 vn;omega
  ·obtain⟨h1,ha⟩:=agr nm o hc ho;rw[mf ha]at hf;by_cases Ka:Ch x_
   ·rcases(pV x_ o' b Ka vt vn).1 with hi|hi
    ·exact cS hi (O7 nm o b hc h1 hf)
    ·have:=lt nm o b h1 hf;omega
   ·obtain⟨h2,ha'⟩:=agr x_ o' Ka vt;rw[mf ha']at vn;exact h.sep nm o x_ o' b h1 h2 hf vn
 ·intro nm o b ho hf;by_cases hc:Ch nm
  ·exact(pV nm o b hc ho hf).2
  ·obtain⟨h1,ha⟩:=agr nm o hc ho;rw[mf ha]at hf;intro hk;rcases XH b hk with h2|h2|h2
   ·exact h.kk nm o b h1 hf h2
   ·exact O7 nm o b hc h1 hf h2
   ·have:=lt nm o b h1 hf;omega
 ·intro nm xs ho a hm;by_cases hc:Ch nm
  ·exact Kf nm xs hc ho a hm
  ·obtain⟨h1,_⟩:=agr nm _ hc ho;intro n hn;exact iy n (h.kn nm xs h1 a hm n hn)
 ·intro b hb hn;exact hW b hb (λhi=>hn hi.own)
 ·rintro b ⟨nm,o,ho,hf⟩;by_cases hc:Ch nm
  ·exact(pV nm o b hc ho hf).1.imp j5.own id
  ·obtain⟨h1,ha⟩:=agr nm o hc ho;rw[mf ha]at hf;exact .inl ⟨nm,o,h1,hf⟩
 ·intro b hb;rcases XH b hb with h2|h2|h2
  ·exact .inl h2
  ·exact .inr (.inl h2.own)
  ·exact .inr (.inr h2)
theorem Ok.change{E:Tab}{σ σ':St}{w w':bJ}{c c':e9}(h:Ok E σ w c)(Ch:aC->Prop)
  (hσ:∀nm,¬Ch nm->σ' (db nm)=σ (db nm)) (iy:∀nm,σ (db nm)≠ .jZ->σ' (db nm)≠ .jZ) (hA:jz σ c c')
  (hW:∀b,b<w.heap.size->¬j5 Ch σ c b->w'.heap[b]? =w.heap[b]?) (fZ:w.heap.size<=w'.heap.size)
  (hK:∀b,c.K b->c'.K b) (XH:∀b,c'.K b->c.K b\/j5 Ch σ c b\/w.heap.size<=b) (Ih:∀b,c'.K b->b<w'.heap.size)
  (mS:∀nm o,Ch nm->σ' (db nm)= .o o->pR E w' c' nm o)
  (pV:∀nm o b,Ch nm->σ' (db nm)= .o o->fM c' nm o b->(j5 Ch σ c b\/w.heap.size<=b)/\¬c'.K b)
  (Uq:∀nm o x_ o' b,Ch nm->Ch x_->σ' (db nm)= .o o->σ' (db x_)= .o o'->fM c' nm o b->fM c' x_ o' b->nm=x_)
  (Kf:∀nm xs,Ch nm->σ' (db nm)= .o (.box xs)->∀a∈xs,jf σ' a)
  (QJ:w'.os=w.os) (Ur:w'.tape=w.tape) (ahk:w'.output=w.output):Ok E σ' w' c'/\ot σ c w σ' c' w':=
 h.xH Ch hσ iy hA.w (λnm _ hn=>(hA nm (.inl hn)).2) hW fZ hK XH Ih mS pV Uq Kf QJ Ur ahk
theorem Ok.slot{E:Tab}{σ σ':St}{w:bJ}{c:e9}(h:Ok E σ w c)(hσ:∀nm,σ' (db nm)=σ (db nm)):Ok E σ' w c/\ot σ c w σ' c w:=by
 refine⟨⟨λnm o ho=>h.obj nm o (hσ nm▸ho),λnm o x_ o' b h1 h2=>h.sep nm o x_ o' b (hσ nm▸h1) (hσ x_▸h2),λnm o b h1=>h.kk nm o b (hσ nm▸h1),h.lt,λnm xs ho a hm n hn=>by rw[hσ];exact h.kn nm xs (hσ nm▸ho) a hm n hn⟩,
  ⟨rfl,rfl,rfl,cJ _,λ_ h=>h,λ_ _ _=>rfl,λb ⟨nm,o,ho,hf⟩=> .inl ⟨nm,o,hσ nm▸ho,hf⟩,λ_ h=> .inl h⟩⟩
theorem E7(a:Act)(d:aC)(v:bn)(h:d<a.tmps.size):(a.put (ah d) v).eval (.tmp d)=v:=by simp[Xp,Jn,h]
theorem JZ(a:Act)(d n:aC)(v:bn)(h:n≠d):(a.put (ah d) v).eval (.tmp n)=a.eval (.tmp n):=by simp only[Xp,Jn,eM,oc];rw[bH (λe=>h e.symm)]
theorem fC.xH{E:Tab}{σ σ':St}{a:Act}{w w':bJ}{c c':e9}(h:fC E σ a w c)(cj:Ok E σ w c)(hG:ot σ c w σ' c' w')(hA:qV σ c c')(iy:∀nm,σ (db nm)≠ .jZ->σ' (db nm)≠ .jZ)
  (o:fB) (v:bn) (hs:∀n,o.dst≠ah n->slot σ' n=slot σ n) (hd:∀d,o.dst=ah d->d<a.tmps.size/\jh E w' c' (slot σ' d) v/\mJ σ' (slot σ' d)):fC E σ' (a.put o.dst v) w' c':=by
 have keep:∀n,jh E w' c' (slot σ n) (a.eval (.tmp n)):=λn=>(h.ok n).pk (hG.abB cj) hG.K (λm hm=>hA m (.inl (h.kn n m hm)));have ady:∀n,mJ σ' (slot σ n):=λn m hm=>iy m (h.kn n m hm);cases ho:o.dst with
 |none=>
  refine⟨λn=> ?_,λn=> ?_,h.df⟩
  ·rw[hs n (by simp[ho])];exact keep n
  ·rw[hs n (by simp[ho])];exact ady n
 |some d=>
  obtain⟨h1,h2,h3⟩:=hd d ho;refine⟨λn=> ?_,λn=> ?_,h.df⟩
  ·by_cases hn:n=d
   ·subst hn;rw[E7 a n v h1];exact h2
   ·rw[JZ a d n v hn,hs n (by rw[ho];simpa using λe=>hn e.symm)];exact keep n
  ·by_cases hn:n=d
   ·subst hn;exact h3
   ·rw[hs n (by rw[ho];simpa using λe=>hn e.symm)];exact ady n
theorem fC.change{E:Tab}{σ σ':St}{a:Act}{w w':bJ}{c c':e9}(h:fC E σ a w c)(cj:Ok E σ w c)(hG:ot σ c w σ' c' w')(hA:jz σ c c')(iy:∀nm,σ (db nm)≠ .jZ->σ' (db nm)≠ .jZ)
  (o:fB) (v:bn) (hs:∀n,o.dst≠ah n->slot σ' n=slot σ n) (hd:∀d,o.dst=ah d->d<a.tmps.size/\jh E w' c' (slot σ' d) v/\mJ σ' (slot σ' d)):fC E σ' (a.put o.dst v) w' c':=
 h.xH cj hG hA.w iy o v hs hd
theorem rY(σ:St)(o:fB)(v:SV):(∀n,o.dst≠ah n->slot (wr σ (dw o v)) n=slot σ n)/\(∀d,o.dst=ah d->slot (wr σ (dw o v)) d=v)/\∀nm,wr σ (dw o v) (db nm)=σ (db nm):=by
 cases ho:o.dst with
 |none=>simp[dw,ho,wr]
 |some d=>
  refine⟨λn hn=> ?_,λd' hd=> ?_,λnm=> ?_⟩
  ·simp only[dw,ho,wr];rw[yP,bH (by rintro rfl;exact hn rfl)]
  ·cases hd;simp only[dw,ho,wr];rw[yP,bB rfl]
  ·simp only[dw,ho,wr];exact K3 _ _ _ _
end Go.FG

namespace Go.FG
def iH:Ck->bn
 | .i k=> .int k 0| .b=> .bool ak| .s=> .string ⟨#[]⟩| .l _=> .slice aj 0 0| .o=> .nilIface
def lU:AV->bn
 | .i k n=> .int k n| .b x=> .bool x| .s x=> .string x|_=> .nilIface
structure eH (P:c6) (E:Tab):Prop where
 info:∀t ti,E.ty t=ah ti->∃inf,P.info? t=ah inf/\inf.size=ti.ks.length/\inf.bytes=ti.bytes/\0<ti.ks.length/\
  (ML ti.ks=ai->∃z,inf.zero=ah z/\z.cells=(ti.ks.map iH).toArray/\(ti.agg=ai->z= .agg (ti.ks.map iH).toArray))
 desc:∀t ti,E.ty t=ah ti->∃d,P.underlying t=ah d/\
  (ti.agg=ai->∃fs,d= .struct fs/\∀f o n,E.fo t f=ah (o,n)->∃fd,fs[f]? =ah fd/\fd.offset=o/\(P.info? fd.type).map (·.size)=ah n/\n≠0/\o+n<=ti.ks.length)/\
  (ti.agg=ak->(∃k,ti.ks=[.i k]/\d= .int k)\/(ti.ks=[.b]/\d= .bool)\/(ti.ks=[.s]/\d= .string)\/(∃e,ti.ks=[.l e]/\d= .slice e)\/
   (ti.ks=[.o]/\(match d with| .struct _| .array _ _=>ak|_=>ai)=ai))
 fo:∀t f o n,E.fo t f=ah (o,n)->∃ti,E.ty t=ah ti/\ti.agg=ai
 pl:∀t ti,E.ty t=ah ti->ti.agg=ai->∀fs,P.underlying t=ah (.struct fs)->∃pl,fs.toList.mapM (λf=>(P.info? f.type).map λi=>(f.offset,i.size))=ah pl/\∀f o n,E.fo t f=ah (o,n)->pl[f]? =ah (o,n)
 eq:∀t ti,mC t E.eqs=ai->E.ty t=ah ti->∀(w:bJ) (x y:dx) (xs ys:az AV) (r:aY),Yz xs ys=ah r->xs.map Iq=ti.ks->ys.map Iq=ti.ks->
  (do eqGuard .eql t x y (.agg (xs.map lU).toArray) (.agg (ys.map lU).toArray);binOp .eql t (.agg (xs.map lU).toArray) (.agg (ys.map lU).toArray)).run P w= .ok (.bool r) w/\
  (do eqGuard .neq t x y (.agg (xs.map lU).toArray) (.agg (ys.map lU).toArray);binOp .neq t (.agg (xs.map lU).toArray) (.agg (ys.map lU).toArray)).run P w= .ok (.bool !r) w
 fl:∀t f,E.T9 t f=ai->∀fs fd,P.underlying t=ah (.struct fs)->fs[f]? =ah fd->∀w,(Go.isAgg fd.type).run P w= .ok ak w
theorem F8{v:bn}(h:v.oneCell'=ai):v.cells= #[v]:=by cases v<;>simp_all [Value.cells,Value.oneCell']
theorem eL.one{E:Tab}{w:bJ}{c:e9}{a:AV}{v:bn}(h:eL E w c a v):v.oneCell'=true:=by
 cases a with
 |i=>cases h;rfl
 |b=>cases h;rfl
 |s=>cases h.1;rfl
 |nl=>cases h;rfl
 |sh e xs=>cases h<;>rfl
 |own n=>cases h;unfold lO;split<;>rfl
 |vw n lo hi=>
  obtain⟨_,_,h1,h2⟩:=h;by_cases hn:(c.P n).nil=ai
  ·rw[h1 hn];rfl
  ·rcases h2 (by simpa using hn)with ⟨_,h⟩|⟨_,o,_,h⟩<;>rw[h]<;>rfl
 |bp n j=>cases h;rfl
 |rp n i j=>rw[h.2];rfl
 |sp e xs i j=>obtain⟨_,_,_,_,_,_,_,h⟩:=h;rw[h];rfl
 |mU n i j=>rw[h.1.2];unfold lO;split<;>rfl
 |ip n i j i2 j2=>rw[h.1.2.2];rfl
 |fn f iQ=>obtain⟨ps,h,_⟩:=h;rw[h];rfl
 |fp cs j=>obtain⟨b,h,_⟩:=h;rw[h];rfl
section
variable {P:c6} (w:bJ)
theorem Addr.nZ(b o i:aC):(ad b o).add i=ad b (o+i):=by unfold Addr.add ad;split<;>simp_all
theorem Fo(b o:aC):∀(vs:az bn) (i:aC) (w:bJ) (cur:dp bn),nV w b cur->o+i+vs.length<=cur.size->(∀v∈vs,v.oneCell'=ai)->
  (storeCells (ad b o) vs i).run P w= .ok () (w.setRow b (cur.toList.take (o+i)++vs++cur.toList.drop (o+i+vs.length)).toArray):=by
 intro vs;induction vs with
 |nil=>intro i w cur hb _ _;obtain⟨t,fr,hg,hf⟩:=hb;simp only[storeCells,cu,jN,zP,vO,uc];rw[setRow_self w b cur t fr hg];rfl
 |cons v rest ih=>
  intro i w cur hb hl h1;have hi:o+i<cur.size:=by simp at hl;omega
  have avs:=hb.free hi;obtain⟨t,fr,hg,hf⟩:=hb;have hcell:w.cell? (ad b (o+i))=ah cur[o+i]:=by simp[World.cell?,hg,hi]
  have Mv:(store ((ad b o).add i) v).run P w= .ok () (w.setRow b (cur.setIfInBounds (o+i) v)):=by rw[Addr.nZ,run_store P w _ v _ (h1 v (by simp)),hcell];simp[avs,setCell_eq_setRow w b (o+i) cur t fr v hg]
  have RD:nV (w.setRow b (cur.setIfInBounds (o+i) v)) b (cur.setIfInBounds (o+i) v):=⟨t,fr,setRow_heap w b cur _ t fr hg,by simpa using hf⟩
  have ih':=ih (i+1) (w.setRow b (cur.setIfInBounds (o+i) v)) (cur.setIfInBounds (o+i) v) RD (by simp at hl⊢;omega) (λx hx=>h1 x (by simp[hx]));simp only[storeCells,cq,Mv,bG,ih',setRow_setRow];congr 3;have e:=list_seg_step cur.toList (o+i) v rest (by simp at hl⊢;omega);simpa [Array.toList_setIfInBounds,lX]using e
def er(cur:dp bn)(o:aC)(vs:az bn):dp bn:=(cur.toList.take o++vs++cur.toList.drop (o+vs.length)).toArray
theorem fa{cur:dp bn}{o:aC}{vs:az bn}(h:o+vs.length<=cur.size):(er cur o vs).size=cur.size:=by simp[er];omega
theorem gz{cur:dp bn}{o:aC}{vs:az bn}(h:o+vs.length<=cur.size)(k:aC):
  (er cur o vs)[k]? =if o<=k/\k<o+vs.length then vs[k-o]? else cur[k]? :=by
 simp only[er,h_];by_cases h1:k<o
 ·rw[bH (by omega),bU,dC (by simp;omega),ea,bB h1];simp
 ·by_cases h2:k<o+vs.length
  ·rw[bB ⟨by omega,h2⟩,bU,c8 (by simp;omega),dC (by simp;omega)];congr 1;simp;omega
  ·rw[bH (by omega),bU,c8 (by simp;omega),c8 (by simp;omega),dV];simp only[cZ];congr 1;simp;omega
theorem nI{b o:aC}{vs:az bn}{cur:dp bn}(hb:nV w b cur)(hl:o+vs.length<=cur.size)(h1:∀v∈vs,v.oneCell'=ai):
  (storeCells (ad b o) vs).run P w= .ok () (w.setRow b (er cur o vs)):=by have:=Fo (P:=P) b o vs 0 w cur hb (by simpa using hl) h1;simpa [er]using this
theorem nV.setRow{w:bJ}{b:aC}{cur new:dp bn}(h:nV w b cur)(hs:new.size=cur.size):nV (w.setRow b new) b new:=by obtain⟨t,fr,hg,hf⟩:=h;exact⟨t,fr,setRow_heap w b cur new t fr hg,by rw[hs];exact hf⟩
theorem nV.alloc(w:bJ)(cs:dp bn)(t:TypeId):nV (w.alloc (.cells cs t)) w.heap.size cs:=
 ⟨t,(0,0),heap_alloc_new w _,λo _=>by simp⟩
theorem yK{b o:aC}{cs:az bn}(h:∀j v,cs[j]? =ah v->w.cell? (ad b (o+j))=ah v):(loadCells (ad b o) cs.length).run P w= .ok cs.toArray w:=
 run_loadCells_list w (ad b o) cs (λj v hj=>by rw[Addr.nZ];exact h j v hj)
theorem D_{E:Tab}(hE:eH P E){t:aC}{ti:TI}(ht:E.ty t=ah ti){b o:aC}{cs:az bn}(hl:cs.length=ti.ks.length)(h:∀j v,cs[j]? =ah v->w.cell? (ad b (o+j))=ah v):
  (zL t (.pointer (ah (ad b o)))).run P w= .ok (if ti.agg=ai then .agg cs.toArray else cs.headD .nilIface) w:=by
 obtain⟨inf,hi,fZ,_,k8,_⟩:=hE.info t ti ht;obtain⟨d,hd,ha,hn⟩:=hE.desc t ti ht;cases uw:ti.agg with
 |true=>obtain⟨fs,rfl,_⟩:=ha uw;have hr:=yK (P:=P) w (b:=b) (o:=o) h;simp only[zL,uP,loadVar,isAgg,cq,run_underlying hd,cU,bG,if_true,sizeOf,typeInfo,program,ni,hi,fZ,<-hl,hr]
 |false=>
  have xU:∃k,ti.ks=[k]:=by rcases hn uw with ⟨k,h,_⟩|⟨h,_⟩|⟨h,_⟩|⟨e,h,_⟩|⟨h,_⟩<;>exact⟨_,h⟩
  obtain⟨k,hk⟩:=xU;rw[hk]at hl;obtain⟨v,rfl⟩:=gX.1 hl;have hc:=h 0 v rfl;simp only[zP]at hc;have aDB:(match d with| .struct _| .array _ _=>ai|_=>ak)=false:=by
   rcases hn uw with ⟨k,_,rfl⟩|⟨_,rfl⟩|⟨_,rfl⟩|⟨e,_,rfl⟩|⟨_,h⟩
   ·rfl
   ·rfl
   ·rfl
   ·rfl
   ·cases d<;>simp_all
  have ava:(isAgg t).run P w= .ok ak w:=by simp only[isAgg,cq,run_underlying hd,bG];cases d<;>simp_all
  simp only[zL,uP,loadVar,cq,cU,bG,ava,dt,if_false,run_load,hc,List.headD]
theorem KR{E:Tab}(hE:eH P E){t:aC}{ti:TI}(ht:E.ty t=ah ti){b o:aC}{v:bn}{cur:dp bn}(hl:v.cells.size=ti.ks.length)(hb:nV w b cur)(hf:o+v.cells.size<=cur.size)(h1:∀u∈v.cells.toList,u.oneCell'=ai):
  (X9 t (.pointer (ah (ad b o))) v).run P w= .ok () (w.setRow b (er cur o v.cells.toList)):=by obtain⟨inf,hi,fZ,_⟩:=hE.info t ti ht;have hr:=nI (P:=P) w hb (o:=o) (vs:=v.cells.toList) (by simpa using hf) h1;simp only[X9,uP,storeVar,cq,cU,bG,sizeOf,typeInfo,program,ni,hi,fZ,hl,ne_eq,not_true_eq_false,if_false,hr]
theorem Re{E:Tab}(hE:eH P E){t:aC}{ti:TI}(ht:E.ty t=ah ti)(ho:ML ti.ks=ai):
  (Instr.alloc t ai (.tuple #[])).run P w= .ok (.pointer (ah (ad w.heap.size 0))) (w.alloc (.cells (ti.ks.map iH).toArray t)):=by obtain⟨inf,hi,fZ,_,_,hz⟩:=hE.info t ti ht;obtain⟨z,Lb,Fj,_⟩:=hz ho;simp only[Instr.alloc,cq,zeroValue,typeInfo,program,ni,hi,bG,cU,Lb,newVar,newRow,newObj,Fj];rfl
theorem Wk(t:aC)(v:bn):(Instr.box t v).run P w= .ok (.pointer (ah (ad w.heap.size 0))) (w.alloc (.cells v.cells t)):=by simp only[Instr.box,cq,newVar,newRow,newObj,ni,bG,cU];rfl
theorem KN{E:Tab}(hE:eH P E){t f off n:aC}(hf:E.fo t f=ah (off,n))(b o:aC):
  (X7 t (.pointer (ah (ad b o))) f).run P w= .ok (.pointer (ah (ad b (o+off)))) w:=by
 obtain⟨ti,ht,uw⟩:=hE.fo t f off n hf;obtain⟨d,hd,ha,_⟩:=hE.desc t ti ht;obtain⟨fs,rfl,Mo⟩:=ha uw;obtain⟨fd,h1,h2,h3,h4,_⟩:=Mo f off n hf;cases hq:P.info? fd.type with
 |none=>simp[hq]at h3
 |some inf=>
  have hs:inf.size=n:=by simpa [hq]using h3
  have iy:¬inf.size=0:=by omega
  simp only[X7,cq,run_underlying hd,bG,h1,uP,cU,fieldPlace,sizeOf,typeInfo,program,ni,hq,bH iy,m8,Addr.nZ,h2]
theorem pd{E:Tab}(hE:eH P E){t e:aC}{ti:TI}(ht:E.ty t=ah ti)(uw:ti.agg=ak)(hk:ti.ks=[.l e]):P.underlying t=ah (.slice e):=by obtain⟨d,hd,_,hn⟩:=hE.desc t ti ht;rcases hn uw with ⟨k,h,_⟩|⟨h,_⟩|⟨h,_⟩|⟨e',h,rfl⟩|⟨h,_⟩<;>rw[hk]at h<;>simp_all
theorem KO{E:Tab}(hE:eH P E){t e:aC}{te:TI}(hu:P.underlying t=ah (.slice e))(he:E.ty e=ah te)(b o n c:aC)(k:nh)(i:aw)(h0:0<=i)(h1:i<n):
  (X8 t (.slice (ah (ad b o)) n c) (.int k i)).run P w= .ok (.pointer (ah (ad b (o+i.toNat*te.ks.length)))) w:=by obtain⟨inf,hi,fZ,_⟩:=hE.info e te he;simp only[X8,asIntOf,cq,cU,bG,run_underlying hu,h0,h1,and_self,if_true,sizeOf,typeInfo,program,ni,hi,fZ,Addr.nZ]
end
end Go.FG

namespace Go.FG
section
variable {P:c6} {E:fS} {σ:St} {a:Act} {w:bJ} {c:e9}
theorem mi(dI:fC E σ a w c){x:dx}{v:SV}(h:(IC x).val σ=ah v):jh E w c v (a.eval x)/\mJ σ v:=by
 cases x with
 |tmp t=>
  simp only[IC,Rd.CK]at h;cases hc:σ (qn t)with
  |v x=>rw[hc]at h;obtain rfl:=aF h;have h1:=dI.ok t;have h2:=dI.kn t;simp only[slot,hc]at h1 h2;exact⟨h1,h2⟩
  |o x=>rw[hc]at h;simp at h;subst h;exact⟨trivial,λn hn=>by simp[cM]at hn⟩
  |jZ=>rw[hc]at h;simp at h;subst h;exact⟨trivial,λn hn=>by simp[cM]at hn⟩
 |const v'=>
  obtain rfl:=aF h;refine⟨?_, ?_⟩
  ·show jh E w c (cst v') v';unfold cst;split;case h_3 x=>
    cases hd:fL x.size 4611686018427387904 with
    |true=>exact⟨rfl,cL hd⟩
    |false=>exact trivial
   all_goals first|trivial|rfl
  ·unfold cst;intro n hn;split at hn;case h_3 x=>
    cases hd:fL x.size 4611686018427387904 with
    |true=>simp[hd,cM,bN]at hn
    |false=>simp[hd,cM]at hn
   all_goals simp[cM,bN]at hn
 |global g=>simp[IC]at h
 |func f=>obtain rfl:=aF h;exact⟨⟨#[],rfl,rfl,λq cs hq=>by simp at hq⟩,λn hn=>by simp[cM,bN]at hn⟩
theorem iW(dI:fC E σ a w c){x:dx}{v:AV}(h:(rS x).val σ=ah v):eL E w c v (a.eval x)/\jf σ v:=by
 obtain⟨s,h1,h2⟩:=Rd.bind_some h;obtain⟨h3,h4⟩:=mi dI h1;split at h2
 ·obtain rfl:=aF h2;exact⟨h3,λn hn=>h4 n (by simpa [cM]using hn)⟩
 ·simp at h2
theorem pY(dI:fC E σ a w c){x:dx}{k:nh}{n:aw}(h:(DR x).val σ=ah (k,n)):a.eval x= .int k n:=by
 obtain⟨s,h1,h2⟩:=Rd.bind_some h;obtain⟨h3,_⟩:=iW dI h1;split at h2
 ·simp at h2;obtain⟨rfl,rfl⟩:=h2;exact h3
 ·simp at h2
theorem dy{nm:aC}{x:Obj}(h:(jI nm).val σ=ah x):σ (db nm)= .o x:=by
 simp only[jI,Rd.CK]at h;split at h
 ·rename_i y hy;simp at h;subst h;exact hy
 ·simp at h
theorem dZ{t:aC}{ti:TI}(h:(sO E t).val σ=ah ti):E.ty t=ah ti:=by
 unfold sO at h;split at h
 ·simp at h;subst h;assumption
 ·simp at h
theorem kF{nm:aC}{u:Unit}(h:(fresh nm).val σ=ah u):σ (db nm)= .jZ/\nm<900000000:=by
 simp only[fresh,Rd.CK]at h;split at h
 ·rename_i hy;obtain⟨h1,_⟩:=cR h;exact⟨hy,by have:=cL h1;omega⟩
 ·simp at h
def gV(P:c6)(E:fS)(σ:St)(a:Act)(w:bJ)(c:e9)(o:fB)(ws:az (aC×eR)):Prop:=
 ∀(K:Act->bJ->Prop) (Q:Exit->Act->bJ->Prop),
  (∀v w' c',Ok E (wr σ ws) w' c'->fC E (wr σ ws) (a.put o.dst v) w' c'->ot σ c w (wr σ ws) c' w'->qV σ c c'->K (a.put o.dst v) w')->o.wp P a w K Q
theorem yU{o:fB}{v:bn}{w':bJ}{K:Act->bJ->Prop}{Q:Exit->Act->bJ->Prop}(hr:(execOp a.eval o).run P w= .ok (.value v) w')(hK:K (a.put o.dst v) w'):o.wp P a w K Q:=by unfold P8;rw[hr];exact hK
theorem El{o:fB}{w':bJ}{K:Act->bJ->Prop}{Q:Exit->Act->bJ->Prop}(hr:(execOp a.eval o).run P w= .ok .skip w')(hK:K (a.put o.dst undef) w'):o.wp P a w K Q:=by unfold P8;rw[hr];exact hK
theorem jz.refl(σ:St)(c:e9):jz σ c c:=λ_ _=>⟨rfl,rfl⟩
theorem gJ(cj:Ok E σ w c)(dI:fC E σ a w c){o:fB}(hd:∀d,o.dst=ah d->d<a.tmps.size){s:SV}{v:bn}
  (hs:jh E w c s v) (hk:mJ σ s) (hr:(execOp a.eval o).run P w= .ok (.value v) w):gV P E σ a w c o (dw o s):=by
 intro K Q hK;obtain⟨s1,s2,s3⟩:=rY σ o s;obtain⟨h1,h2⟩:=cj.slot s3;refine yU hr (hK v w c h1 ?_ h2 (jz.refl _ _).w);refine dI.change cj h2 (jz.refl _ _) (λnm hn=>by rw[s3];exact hn) o v s1 (λd ho=>⟨hd d ho, ?_, ?_⟩)
 ·rw[s2 d ho];exact hs
 ·rw[s2 d ho];intro n hn;rw[s3];exact hk n hn
theorem Dv(cj:Ok E σ w c)(dI:fC E σ a w c){o:fB}(hd:∀d,o.dst=ah d->d<a.tmps.size){nm:aC}{ob:Obj}{s:SV}{v:bn}{w':bJ}{p:Pl}{g:aC->aC->Pl}
  (hn:σ (db nm)= .jZ) (jb:nm<900000000)
  (mS:∀c':e9,c'.P nm=p->c'.G nm=g->(∀b,c.K b->c'.K b)->jz σ c c'->pR E w' c' nm ob)
  (pV:∀c':e9,c'.P nm=p->c'.G nm=g->∀b,fM c' nm ob b->w.heap.size<=b)
  (Kf:∀xs,ob= .box xs->∀a∈xs,jf σ a)
  (zC:∀c':e9,c'.P nm=p->c'.G nm=g->jh E w' c' s v) (B6:∀n∈cM s,n=nm\/σ (db n)≠ .jZ)
  (hW:∀b,b<w.heap.size->w'.heap[b]? =w.heap[b]?) (fZ:w.heap.size<=w'.heap.size) (QJ:w'.os=w.os) (YX:w'.tape=w.tape) (YR:w'.output=w.output)
  (hr:(execOp a.eval o).run P w= .ok (.value v) w'):gV P E σ a w c o ((db nm, .o ob)::dw o s):=by
 intro K Q hK;let c':e9:=⟨λn=>if n=nm then p else c.P n,λn=>if n=nm then g else c.G n,c.K⟩
 have hP:c'.P nm=p:=bB rfl;have hG:c'.G nm=g:=bB rfl;have hA:jz σ c c':=λm hm=>by
  have:m≠nm:=by rintro rfl;rcases hm with h|h;exact h hn;omega
  exact⟨bH this,bH this⟩
 let σ1:=pM σ (db nm) (.o ob);obtain⟨s1,s2,s3⟩:=rY σ1 o s;have key:∀m,wr σ1 (dw o s) (db m)=if m=nm then .o ob else σ (db m):=λm=>by rw[s3];exact p_ _ _ _ _
 have iy:∀m,σ (db m)≠ .jZ->wr σ1 (dw o s) (db m)≠ .jZ:=λm hm=>by rw[key];split<;>simp_all
 have hh:=cj.change (σ':=wr σ1 (dw o s)) (w':=w') (c':=c') (λm=>m=nm) (λm hm=>by rw[key,bH hm]) iy hA
  (λb hb _=>hW b hb) fZ (λ_ h=>h) (λ_ h=> .inl h) (λb hb=>js (cj.lt b hb) fZ)
  (λm x hm ho=>by subst hm;rw[key,bB rfl]at ho;cases ho;exact mS c' hP hG (λ_ h=>h) hA)
  (λm x b hm ho hf=>by subst hm;rw[key,bB rfl]at ho;cases ho;have:=pV c' hP hG b hf;exact⟨.inr this,λhk=>by have:=cj.lt b hk;omega⟩)
  (λm x m' x' b hm xT _ _ _ _=>by rw[hm,xT])
  (λm xs hm ho y hy n kG=>by subst hm;rw[key,bB rfl]at ho;cases ho;exact iy n (Kf xs rfl y hy n kG)) QJ YX YR
 refine yU hr (hK v w' c' hh.1 ?_ hh.2 hA.w);refine dI.change cj hh.2 hA iy o v (λn kG=>by rw[s1 n kG];exact jl _ _ _ _) (λd ho=>⟨hd d ho, ?_, ?_⟩)
 ·show jh E w' c' (slot (wr σ1 (dw o s)) d) v;rw[s2 d ho];exact zC c' hP hG
 ·show mJ (wr σ1 (dw o s)) (slot (wr σ1 (dw o s)) d);rw[s2 d ho];intro n kG;rw[key];split
  ·simp
  ·rename_i h;exact(B6 n kG).resolve_left h
theorem tz(cj:Ok E σ w c)(dI:fC E σ a w c){o:fB}(hd:∀d,o.dst=ah d->d<a.tmps.size){nm:aC}{ob ob':Obj}{s:SV}{v:bn}{w':bJ}
  (hn:σ (db nm)= .o ob) (mS:pR E w' c nm ob') (pV:∀b,fM c nm ob' b->fM c nm ob b)
  (Kf:∀xs,ob'= .box xs->∀a∈xs,jf σ a)
  (zC:jh E w' c s v) (B6:mJ σ s)
  (hW:∀b,b<w.heap.size->¬fM c nm ob b->w'.heap[b]? =w.heap[b]?) (fZ:w.heap.size<=w'.heap.size) (QJ:w'.os=w.os) (YX:w'.tape=w.tape) (YR:w'.output=w.output)
  (hr:(execOp a.eval o).run P w= .ok (.value v) w'\/((execOp a.eval o).run P w= .ok .skip w'/\v=undef)):gV P E σ a w c o ([(db nm, .o ob')]++dw o s):=by
 intro K Q hK;let σ1:=pM σ (db nm) (.o ob');obtain⟨s1,s2,s3⟩:=rY σ1 o s;have key:∀m,wr σ1 (dw o s) (db m)=if m=nm then .o ob' else σ (db m):=λm=>by rw[s3];exact p_ _ _ _ _
 have iy:∀m,σ (db m)≠ .jZ->wr σ1 (dw o s) (db m)≠ .jZ:=λm hm=>by rw[key];split<;>simp_all
 have fP:∀b,fM c nm ob b->j5 (λm=>m=nm) σ c b:=λb hb=>⟨nm,ob,rfl,hn,hb⟩
 have hh:=cj.change (σ':=wr σ1 (dw o s)) (w':=w') (c':=c) (λm=>m=nm) (λm hm=>by rw[key,bH hm]) iy (jz.refl _ _)
  (λb hb YQ=>hW b hb (λhf=>YQ (fP b hf))) fZ (λ_ h=>h) (λ_ h=> .inl h) (λb hb=>js (cj.lt b hb) fZ)
  (λm x hm ho=>by subst hm;rw[key,bB rfl]at ho;cases ho;exact mS)
  (λm x b hm ho hf=>by subst hm;rw[key,bB rfl]at ho;cases ho;exact⟨.inl (fP b (pV b hf)),cj.kk _ _ b hn (pV b hf)⟩)
  (λm x m' x' b hm xT _ _ _ _=>by rw[hm,xT])
  (λm xs hm ho y hy n kG=>by subst hm;rw[key,bB rfl]at ho;cases ho;exact iy n (Kf xs rfl y hy n kG)) QJ YX YR
 have alI:fC E (wr σ1 (dw o s)) (a.put o.dst v) w' c:=by
  refine dI.change cj hh.2 (jz.refl _ _) iy o v (λn kG=>by rw[s1 n kG];exact jl _ _ _ _) (λd ho=>⟨hd d ho, ?_, ?_⟩)
  ·rw[s2 d ho];exact zC
  ·rw[s2 d ho];intro n kG;rw[key];split
   ·simp
   ·exact B6 n kG
 rcases hr with hr|⟨hr,rfl⟩
 ·exact yU hr (hK v w' c hh.1 alI hh.2 (jz.refl _ _).w)
 ·exact El hr (hK undef w' c hh.1 alI hh.2 (jz.refl _ _).w)
end
end Go.FG

namespace Go.FG
theorem agK:∀{x y:Ck},ckB x y=ai->x=y:=by intro x y h;cases x<;>cases y<;>simp[ckB]at h<;>first|rfl|(subst h;rfl)|(have:=aU h;subst this;rfl)
theorem rL:∀{a b:az Ck},qk a b=ai->a=b
 |[],[],_=>rfl
 |[],_::_,h=>by simp[qk]at h
 |_::_,[],h=>by simp[qk]at h
 |x::l,y::r,h=>by
  simp only[qk,aK]at h;rw[agK h.1,rL h.2]
structure auS (E:fS) (w:bJ) (K:aC->Prop) (b o n c e:aC) (xs:aQ) (ti:TI) (U:aC->aC->bn):Prop where
 nn:n=xs.length
 ty:E.ty e=ah ti
 cap:xs.length<=c
 mx:c<=maxLen
 kb:K b
 sh:∀y∈xs,y.map CV.kd=ti.ks
 cell:∀i j y x,xs[i]? =ah y->y[j]? =ah x->w.cell? (ad b (o+i*ti.ks.length+j))=ah (U i j)
 mU:∀i j y x,xs[i]? =ah y->y[j]? =ah x->dg E w K (U i j) x
theorem dg.Ks{E:fS}{w:bJ}{K:aC->Prop}{b o n c e:aC}{xs:aQ}(h:dg E w K (.slice (ah (ad b o)) n c) (.l e xs))(hn:0<xs.length):∃ti U,auS E w K b o n c e xs ti U:=by
 generalize hv:Value.slice (ah (ad b o)) n c=v at h;generalize hx:CV.l e xs=x at h;cases h with
 |i=>cases hx
 |b=>cases hx
 |s=>cases hx
 |nl=>cases hx;simp at hn
 |l e xs b o c ti U ht hc hm hK hs hcell fP=>cases hx;cases hv;exact⟨ti,U,rfl,ht,hc,hm,hK,hs,hcell,fP⟩
theorem LY{E:fS}{w:bJ}{c:e9}{u:bn}{x:CV}(h:dg E w c.K u x):eL E w c (dec x.kd x) u:=by
 cases x with
 |i k n=>cases h;rfl
 |b=>cases h;rfl
 |s=>cases h with|s _ ho=>exact⟨rfl,ho⟩
 |l e xs=>exact h
theorem O9{E:fS}{w:bJ}{c:e9}{u:bn}{x:CV}(h:dg E w c.K u x):eL E w c (aaA x) u:=by
 cases x with
 |i k n=>cases h;rfl
 |b=>cases h;rfl
 |s=>cases h with|s _ ho=>exact⟨rfl,ho⟩
 |l e xs=>exact h
theorem pc{E:fS}{w:bJ}{c:e9}{u:bn}{x:CV}(hl:uz x=ak)(h:Sc u x):eL E w c (dec x.kd x) u:=by
 cases x with
 |i=>exact h.1
 |b=>exact h.1
 |s=>exact h
 |l=>simp[uz]at hl
theorem QW(k:Ck)(x:CV):bN (dec k x)=[]:=by cases k<;>rfl
theorem DH(x:CV):bN (aaA x)=[]:=by cases x<;>rfl
theorem lN(xs:aQ)(i:aC):∀(ks:az Ck) (j q:aC),(va xs i j ks)[q]? =(ks[q]?).map λk=>dec k (ar xs i (j+q)):=by
 intro ks;induction ks with
 |nil=>intro j q;simp[va]
 |cons k ks ih=>
  intro j q;cases q with
  |zero=>simp[va]
  |succ q=>simp only[va,dO,ih];congr 2;funext k;congr 2;omega
theorem JT(nm:aC)(xs:aQ)(i:aC):∀(ks:az Ck) (j q:aC),(B1 nm xs i j ks)[q]? =(ks[q]?).map λk=>match k with| .l _=>AV.mU nm i (j+q)|k=>dec k (ar xs i (j+q)):=by
 intro ks;induction ks with
 |nil=>intro j q;simp[B1]
 |cons k ks ih=>
  intro j q;cases q with
  |zero=>cases k<;>simp[B1]
  |succ q=>
   have e:j+1+q=j+(q+1):=by omega
   cases k<;>simp only[B1,dO,ih,e]
theorem fD{xs:aQ}{i j:aC}{y:az CV}{x:CV}(hi:xs[i]? =ah y)(hj:y[j]? =ah x):ar xs i j=x:=by simp[ar,gg,hi,hj]
theorem kJ(xs:aQ)(i:aC):∀(ks:az Ck) (j:aC),(va xs i j ks).length=ks.length:=by
 intro ks;induction ks with
 |nil=>intro j;rfl
 |cons k ks ih=>intro j;simp[va,ih]
theorem Bu(nm:aC)(xs:aQ)(i:aC):∀(ks:az Ck) (j:aC),(B1 nm xs i j ks).length=ks.length:=by
 intro ks;induction ks with
 |nil=>intro j;rfl
 |cons k ks ih=>intro j;cases k<;>simp[B1,ih]
theorem qL{ks ks2:az Ck}{j:aC}{y:az CV}(hy:y.map CV.kd=ks)(h:(ks.drop j).take ks2.length=ks2){q:aC}(hq:q<ks2.length):∃x,y[j+q]? =ah x/\ks2[q]? =ah x.kd:=by
 have h1:ks2[q]? =ks[j+q]? :=by rw[<-h,ea,bB hq,dV]
 rw[<-hy,bI]at h1;cases hx:y[j+q]? with
 |none=>rw[hx]at h1;simp at h1;omega
 |some x=>exact⟨x,rfl,by rw[h1,hx];rfl⟩
section
variable {P:c6} {E:fS} {σ:St} {a:Act} {w:bJ} {c:e9}
theorem uI{p:Pl}{G:aC->aC->Pl}{xs:aQ}{ks:az Ck}{i j e2:aC}(gk:jg w p xs (λi j u x=>if ai=ai then XC E w G i j u x else dg E w c.K u x))(mE:∀y∈xs,y.map CV.kd=ks)(hi:i<p.n)(hk:ks[j]? =ah (.l e2)):
  ∃ys y,xs[i]? =ah y/\y[j]? =ah (.l e2 ys)/\∃u,XC E w G i j u (.l e2 ys):=by
 have lZ:i<xs.length:=by rw[<-gk.n];exact hi
 have hy:xs[i]? =ah xs[i]:=by simp[lZ]
 have h1:=mE xs[i] (bu lZ);rw[<-h1,bI]at hk;cases hx:xs[i][j]? with
 |none=>rw[hx]at hk;cases hk
 |some x=>
  rw[hx]at hk;cases x with
  |l e ys=>
   cases hk;have ju:p.nil=false:=by
    cases hn:p.nil with
    |false=>rfl
    |true=>have:=(gk.nil hn).1;subst this;simp at lZ
   obtain⟨vals,_,_,_,_,pD⟩:=gk.mem ju;obtain⟨u,_,hr⟩:=pD i _ j _ hy hx;rw[bB rfl]at hr;exact⟨ys,_,hy,hx,u,hr⟩
  |i=>cases hk
  |b=>cases hk
  |s=>cases hk
theorem im{ks:az Ck}(h:plain ks=ai){y:az CV}(hy:y.map CV.kd=ks){j:aC}{x:CV}(hx:y[j]? =ah x):uz x=false:=by
 have h1:x.kd∈ks:=by rw[<-hy];exact cw.2 ⟨x,aR hx,rfl⟩
 have h2:=bA.1 h _ h1;cases x<;>simp_all [CV.kd,uz]
structure Tv (E:fS) (σ:St) (w:bJ) (c:e9) (ti:TI) (v:bn) (xs:az AV):Prop where
 ex:∃(b o:aC) (cs:az bn),v= .pointer (ah (ad b o))/\cs.length=ti.ks.length/\(∀(j:aC) (u:bn),cs[j]? =ah u->w.cell? (ad b (o+j))=ah u)/\
  xs.length=ti.ks.length/\(∀(j:aC) (x:AV),xs[j]? =ah x->∃u:bn,cs[j]? =ah u/\eL E w c x u)
 kn:∀x∈xs,jf σ x
theorem mq{ti:TI}{b o:aC}{xs:az AV}(hl:xs.length=ti.ks.length)(h:∀(j:aC) (x:AV),xs[j]? =ah x->∃u:bn,w.cell? (ad b (o+j))=ah u/\eL E w c x u)(hk:∀x∈xs,jf σ x):
  Tv E σ w c ti (.pointer (ah (ad b o))) xs:=by
 refine⟨⟨b,o,(ch xs.length).map (λj=>(w.cell? (ad b (o+j))).getD undef),rfl,by simp[hl], ?_,hl, ?_⟩,hk⟩
 ·intro j u hu;simp only[bI]at hu;by_cases hj:j<xs.length
  ·obtain⟨u',sq,_⟩:=h j xs[j] (by simp[hj]);simp only[hj,vN,jc,sq,zQ,jw]at hu;rw[sq,hu]
  ·simp[kS (l:=ch xs.length) (by simpa using hj)]at hu
 ·intro j x hx;obtain⟨u,hu,hv⟩:=h j x hx;refine⟨u, ?_,hv⟩
  have hj:j<xs.length:=(aT.1 hx).1;simp[hj,hu]
theorem Vc(cj:Ok E σ w c){ti:TI}{p:AV}{v:bn}{xs:az AV}(hp:eL E w c p v)(h:(tE E ti p).val σ=ah xs):Tv E σ w c ti v xs:=by
 have nok:∀(n:aC) (k:Ck) (x:CV),n∈bN (dec k x)->σ (db n)≠ .jZ:=λn k x hn=>by rw[QW]at hn;simp at hn
 cases p with
 |bp nm j=>
  obtain⟨o,ho,h2⟩:=Rd.bind_some h;have mS:=cj.obj nm o (dy ho);obtain rfl:v=_:=hp;cases o with
  |box ys=>
   obtain⟨hle,h3⟩:=cR h2;have hle:=cL hle;obtain rfl:=aF h3;obtain⟨vals,hb,hs,hc⟩:=mS;refine mq (by simp;omega) (λq x hx=> ?_) (λx hx=>cj.kn nm ys (dy ho) x (kT (kU hx)));rw[ea]at hx;split at hx
   ·rw[dV]at hx;obtain⟨u,hu,hv⟩:=hc (j+q) x hx;exact⟨u,(hb.cell (j+q)).trans hu,hv⟩
   ·cases hx
  |n5 cs=>
   obtain⟨hle,h3⟩:=cR h2;have hle:=cL hle;obtain rfl:=aF h3;refine mq (by simp;omega) (λq x hx=> ?_) (λx hx=> ?_)
   ·rw[bI,ea]at hx;split at hx
    ·rw[dV]at hx;cases hy:cs[j+q]? with
     |none=>rw[hy]at hx;cases hx
     |some y=>rw[hy]at hx;cases hx;obtain⟨u,hu,hv⟩:=mS.2 (j+q) y hy;exact⟨u,hu,O9 hv⟩
    ·cases hx
   ·obtain⟨y,_,rfl⟩:=cw.1 hx;intro n hn;rw[DH]at hn;simp at hn
  |row=>simp at h2
  |fV=>simp at h2
  |dead=>simp at h2
 |fp cs j=>
  obtain⟨hle,h3⟩:=cR h;have hle:=cL hle;obtain rfl:=aF h3;obtain⟨b,rfl,hb⟩:=hp;refine mq (by simp;omega) (λq x hx=> ?_) (λx hx=> ?_)
  ·rw[bI,ea]at hx;split at hx
   ·rw[dV]at hx;cases hy:cs[j+q]? with
    |none=>rw[hy]at hx;cases hx
    |some y=>rw[hy]at hx;cases hx;obtain⟨u,hu,hv⟩:=hb.2 (j+q) y hy;exact⟨u,hu,O9 hv⟩
   ·cases hx
  ·obtain⟨y,_,rfl⟩:=cw.1 hx;intro n hn;rw[DH]at hn;simp at hn
 |sp e ys i j=>
  obtain⟨te,ht,h2⟩:=Rd.bind_some h;have ht:=dZ ht;obtain⟨hk,h3⟩:=cR h2;have hk:=rL hk;obtain rfl:=aF h3;obtain⟨b,o,cp,ti2,hh,hi,Im,rfl⟩:=hp;obtain rfl:te=ti2:=aF (ht.symm.trans Im);refine mq (kJ _ _ _ _) (λq x hx=> ?_) (λx hx=> ?_)
  ·rw[lN]at hx;obtain⟨ti3,U,hL⟩:=hh.Ks (by omega);obtain rfl:te=ti3:=aF (ht.symm.trans hL.ty);have hq:q<ti.ks.length:=by
    cases hq:ti.ks[q]? with
    |none=>rw[hq]at hx;cases hx
    |some k=>exact(aT.1 hq).1
   have hy:ys[i]? =ah ys[i]:=by simp[hi]
   obtain⟨z,hz,wx⟩:=qL (hL.sh ys[i] (bu hi)) hk hq;rw[wx]at hx;cases hx;rw[fD hy hz];exact⟨U i (j+q),by have:=hL.cell i (j+q) _ z hy hz;rwa[show o+i*te.ks.length+j+q=o+i*te.ks.length+(j+q)by omega],LY (hL.mU i (j+q) _ z hy hz)⟩
  ·obtain⟨q,hq⟩:=b7 hx;rw[lN]at hq;cases wx:ti.ks[q]? with
   |none=>rw[wx]at hq;cases hq
   |some k=>rw[wx]at hq;cases hq;intro n hn;exact nok n _ _ hn
 |rp nm i j=>
  obtain⟨o,ho,h2⟩:=Rd.bind_some h;have ho:=dy ho;have mS:=cj.obj nm o ho;obtain⟨hi,rfl⟩:=hp;cases o with
  |row e ex ys=>
   obtain⟨te,ht,h2⟩:=Rd.bind_some h2;have ht:=dZ ht;obtain⟨hk,h3⟩:=cR h2;have hk:=rL hk;have h3:(ex=ai/\plain ti.ks=ai/\xs=va ys i j ti.ks)\/((ex=ak\/AO nm=ak)/\xs=bif ex then B1 nm ys i j ti.ks else va ys i j ti.ks):=by
    cases hF:(ex&&AO nm)with
    |true=>rw[hF,au]at h3;obtain⟨sR,h3⟩:=cR h3;rw[aK]at hF;exact .inl ⟨hF.1,sR,(aF h3).symm⟩
    |false=>
     rw[hF,ax]at h3;refine .inr ⟨?_,(aF h3).symm⟩;cases ex with
     |false=>exact .inl rfl
     |true=>exact .inr (by simpa using hF)
   obtain⟨⟨ti2,Im,fZ,mE⟩,gk,_⟩:=mS;obtain rfl:te=ti2:=aF (ht.symm.trans Im);have ju:(c.P nm).nil=false:=by
    cases hn:(c.P nm).nil with
    |false=>rfl
    |true=>have:=(gk.nil hn).1;subst this;rw[gk.n]at hi;simp at hi
   obtain⟨vals,hb,Ul,_,mA,pD⟩:=gk.mem ju;have lZ:i<ys.length:=by rw[<-gk.n];exact hi
   have hy:ys[i]? =ah ys[i]:=by simp[lZ]
   rcases h3 with ⟨rfl,sR,rfl⟩|h3
   ·refine mq (kJ _ _ _ _) (λq x hx=> ?_) (λx hx=> ?_)
    ·have hq:q<ti.ks.length:=by have:=(aT.1 hx).1;simpa [kJ]using this
     obtain⟨z,hz,wx⟩:=qL (mE ys[i] (bu lZ)) hk hq;obtain⟨u,hu,hr⟩:=pD i _ (j+q) z hy hz;rw[bB rfl]at hr;rw[lN,wx]at hx;cases hx;refine⟨u, ?_, ?_⟩
     ·rw[hb.cell];rw[<-hu];congr 1;omega
     ·have hzk:=bA.1 sR z.kd (aR wx);show eL E w c (dec z.kd (ar ys i (j+q))) u;rw[fD hy hz];cases z with
      |l e2 zs=>cases hzk
      |i k n=>exact pc rfl hr
      |b t=>exact pc rfl hr
      |s t=>exact pc rfl hr
    ·obtain⟨q,hq⟩:=b7 hx;intro n hn;rw[lN]at hq;cases wx:ti.ks[q]? with
     |none=>rw[wx]at hq;cases hq
     |some k=>rw[wx]at hq;cases hq;exact nok n _ _ hn
   obtain⟨hFn,rfl⟩:=h3;refine mq (by cases ex<;>simp[kJ,Bu]) (λq x hx=> ?_) (λx hx=> ?_)
   ·have hq:q<ti.ks.length:=by have:=(aT.1 hx).1;cases ex<;>simpa [kJ,Bu]using this
    obtain⟨z,hz,wx⟩:=qL (mE ys[i] (bu lZ)) hk hq;obtain⟨u,hu,hr⟩:=pD i _ (j+q) z hy hz;refine⟨u, ?_, ?_⟩
    ·rw[hb.cell];rw[<-hu];congr 1;omega
    ·cases ex with
     |false=>rw[bH (by simp)]at hr;have hx:(va ys i j ti.ks)[q]? =ah x:=hx;rw[lN,wx]at hx;cases hx;rw[fD hy hz];exact LY hr
     |true=>
      rw[bB rfl]at hr;have hx:(B1 nm ys i j ti.ks)[q]? =ah x:=hx;rw[JT,wx]at hx;cases z with
      |l e2 zs=>cases hx;exact⟨⟨hi,hr.1⟩,hFn.resolve_left (by simp)⟩
      |i k n=>cases hx;rw[fD hy hz];exact pc rfl hr
      |b t=>cases hx;rw[fD hy hz];exact pc rfl hr
      |s t=>cases hx;rw[fD hy hz];exact pc rfl hr
   ·obtain⟨q,hq⟩:=b7 hx;intro n hn;cases ex with
    |false=>
     have hq:(va ys i j ti.ks)[q]? =ah x:=hq;rw[lN]at hq;cases wx:ti.ks[q]? with
     |none=>rw[wx]at hq;cases hq
     |some k=>rw[wx]at hq;cases hq;exact nok n _ _ hn
    |true=>
     have hq:(B1 nm ys i j ti.ks)[q]? =ah x:=hq;rw[JT]at hq;cases wx:ti.ks[q]? with
     |none=>rw[wx]at hq;cases hq
     |some k=>
      rw[wx]at hq;cases k with
      |l e2=>cases hq;simp[bN]at hn;subst hn;rw[ho];simp
      |i=>cases hq;exact nok n _ _ hn
      |b=>cases hq;exact nok n _ _ hn
      |s=>cases hq;exact nok n _ _ hn
      |o=>cases hq;exact nok n _ _ hn
  |fV e ys=>
   obtain⟨te,ht,h2⟩:=Rd.bind_some h2;have ht:=dZ ht;obtain⟨hk,h3⟩:=cR h2;have hk:=rL hk;obtain rfl:=aF h3;obtain⟨hh,hn,ti2,Im,fZ⟩:=mS;obtain rfl:te=ti2:=aF (ht.symm.trans Im);have lZ:i<ys.length:=by rw[<-hn];exact hi
   have hy:ys[i]? =ah ys[i]:=by simp[lZ]
   have ju:(c.P nm).nil=false:=by
    cases hq:(c.P nm).nil with
    |false=>rfl
    |true=>unfold lO at hh;rw[bB hq]at hh;cases hh;simp at lZ
   unfold lO at hh;rw[bH (by simp[ju]),hn]at hh;refine mq (kJ _ _ _ _) (λq x hx=> ?_) (λx hx=> ?_)
   ·rw[lN]at hx;obtain⟨ti3,U,hL⟩:=hh.Ks (by omega);obtain rfl:te=ti3:=aF (ht.symm.trans hL.ty);have hq:q<ti.ks.length:=by
     cases hq:ti.ks[q]? with
     |none=>rw[hq]at hx;cases hx
     |some k=>exact(aT.1 hq).1
    obtain⟨z,hz,wx⟩:=qL (hL.sh ys[i] (bu lZ)) hk hq;rw[wx]at hx;cases hx;rw[fD hy hz];exact⟨U i (j+q),by have:=hL.cell i (j+q) _ z hy hz;rw[<-this];congr 2;rw[fZ];omega,LY (hL.mU i (j+q) _ z hy hz)⟩
   ·obtain⟨q,hq⟩:=b7 hx;rw[lN]at hq;cases wx:ti.ks[q]? with
    |none=>rw[wx]at hq;cases hq
    |some k=>rw[wx]at hq;cases hq;intro n hn;exact nok n _ _ hn
  |box=>simp at h2
  |n5=>simp at h2
  |dead=>simp at h2
 |ip nm i j i2 j2=>
  obtain⟨o,ho,h2⟩:=Rd.bind_some h;have ho:=dy ho;have mS:=cj.obj nm o ho;obtain⟨⟨iV,hi,rfl⟩,hFp⟩:=hp;cases o with
  |row e ex ys=>
   cases ex with
   |false=>simp at h2
   |true=>
    obtain⟨te,ht,h2⟩:=Rd.bind_some h2;have ht:=dZ ht;split at h2
    ·rename_i e2 zA;obtain⟨t2,Im,h2⟩:=Rd.bind_some h2;have Im:=dZ Im;obtain⟨hk,h3⟩:=cR h2;have hk:=rL hk;obtain rfl:=aF h3;obtain⟨⟨tj,htj,fZ,mE⟩,gk,_⟩:=mS;obtain rfl:te=tj:=aF (ht.symm.trans htj);obtain⟨zs,y,hy,hyj,uu,_,tk,Io,sR,Mw,Ff,oH⟩:=uI (c:=c) gk mE iV zA;obtain rfl:t2=tk:=aF (Im.symm.trans Io);rw[fD hy hyj];refine mq (kJ _ _ _ _) (λq x hx=> ?_) (λx hx=> ?_)
     ·rw[lN]at hx;have hq:q<ti.ks.length:=by
       cases hq:ti.ks[q]? with
       |none=>rw[hq]at hx;cases hx
       |some k=>exact(aT.1 hq).1
      have E_:i2<zs.length:=by rw[<-oH.n];exact hi
      have DA:(c.G nm i j).nil=false:=by
       cases hn:(c.G nm i j).nil with
       |false=>rfl
       |true=>have:=(oH.nil hn).1;subst this;simp at E_
      obtain⟨vals,hb,_,_,_,pD⟩:=oH.mem DA;have hzi:zs[i2]? =ah zs[i2]:=by simp[E_]
      obtain⟨z,hz,wx⟩:=qL (Ff zs[i2] (bu E_)) hk hq;obtain⟨u,hu,hr⟩:=pD i2 _ (j2+q) z hzi hz;rw[wx]at hx;cases hx;refine⟨u, ?_, ?_⟩
      ·rw[hb.cell,<-hu];congr 1;omega
      ·show eL E w c (dec z.kd (ar zs i2 (j2+q))) u;rw[fD hzi hz];exact pc (im sR (Ff _ (bu E_)) hz) hr
     ·obtain⟨q,hq⟩:=b7 hx;rw[lN]at hq;cases wx:ti.ks[q]? with
      |none=>rw[wx]at hq;cases hq
      |some k=>rw[wx]at hq;cases hq;intro n hn;exact nok n _ _ hn
    ·simp at h2
  |fV=>simp at h2
  |box=>simp at h2
  |n5=>simp at h2
  |dead=>simp at h2
 |i=>simp[tE]at h
 |b=>simp[tE]at h
 |s=>simp[tE]at h
 |sh=>simp[tE]at h
 |nl=>simp[tE]at h
 |own=>simp[tE]at h
 |vw=>simp[tE]at h
 |mU=>simp[tE]at h
 |fn=>simp[tE]at h
end
end Go.FG

namespace Go.FG
section
variable {P:c6} {E:fS} {σ:St} {a:Act} {w:bJ} {c:e9} {o:fB} {nm:aC} {e:sV}
theorem iT{s:Sem bn}{v:bn}{w':bJ}(hr:s.run P w= .ok v w'):(do pure (Next.value (<-s)):Sem Next).run P w= .ok (.value v) w':=by simp only[cq,hr,bG,cU]
theorem gd(cj:Ok E σ w c)(dI:fC E σ a w c)(hd:∀d,o.dst=ah d->d<a.tmps.size){s:SV}{v:bn}(h:(val o s).val σ=ah e)(hs:jh E w c s v)(hk:mJ σ s)(hr:(execOp a.eval o).run P w= .ok (.value v) w):gV P E σ a w c o e.ws:=by obtain rfl:=aF h;exact gJ cj dI hd hs hk hr
theorem GJ(cj:Ok E σ w c)(dI:fC E σ a w c)(hd:∀d,o.dst=ah d->d<a.tmps.size){b:aY}{x:AV}{v:bn}(h:(Ng o b x).val σ=ah e)(hc:e.cond=ai)(hs:b=ai->eL E w c x v)(hk:jf σ x)(hr:b=ai->(execOp a.eval o).run P w= .ok (.value v) w):gV P E σ a w c o e.ws:=by obtain rfl:=aF h;have hc:b=true:=hc;exact gJ cj dI hd (hs hc) (λn hn=>hk n (by simpa [cM]using hn)) (hr hc)
theorem uA{σ:St}{x:AV}(h:bN x=[]):jf σ x:=λn hn=>by rw[h]at hn;simp at hn
theorem Pc(cj:Ok E σ w c)(dI:fC E σ a w c)(hd:∀d,o.dst=ah d->d<a.tmps.size){x:dx}(ho:o.op= .move x\/o.op= .assign x)(h:(l_ E nm o).val σ=ah e):gV P E σ a w c o e.ws:=by
 have h':((IC x).bind λv=>val o v).val σ=ah e:=by rcases ho with ho|ho<;>simpa [l_,ho]using h
 obtain⟨v,h1,h2⟩:=Rd.bind_some h';obtain⟨hv,hk⟩:=mi dI h1;refine gd cj dI hd h2 hv hk ?_;rcases ho with ho|ho<;>(unfold execOp;rw[ho];rfl)
theorem KE(cj:Ok E σ w c)(dI:fC E σ a w c)(hd:∀d,o.dst=ah d->d<a.tmps.size){x:dx}(ho:o.op= .nilCheck x)(h:(l_ E nm o).val σ=ah e):gV P E σ a w c o e.ws:=by
 simp only[l_,ho]at h;obtain⟨p,h1,h⟩:=Rd.bind_some h;obtain⟨ex,kx⟩:=iW dI h1;cases p with
 |bp n j=>have uv:a.eval x= .pointer (ah (ad (c.P n).blk j)):=ex;refine gd cj dI hd h (v:=a.eval x) ex (λn hn=>kx n (by simpa [cM]using hn)) ?_;unfold execOp;rw[ho];simp only[uv];rfl
 |rp n i j=>have uv:a.eval x= .pointer (ah (ad (c.P n).blk ((c.P n).off+i*(c.P n).sz+j))):=ex.2;refine gd cj dI hd h (v:=a.eval x) ex (λn hn=>kx n (by simpa [cM]using hn)) ?_;unfold execOp;rw[ho];simp only[uv];rfl
 |_=>cases h
theorem aaH(cj:Ok E σ w c)(dI:fC E σ a w c)(hd:∀d,o.dst=ah d->d<a.tmps.size){x y z:dx}(ho:o.op= .pick x y z)(h:(l_ E nm o).val σ=ah e)(hc:e.cond=ai):gV P E σ a w c o e.ws:=by
 simp only[l_,ho]at h;obtain⟨cx,h1,h⟩:=Rd.bind_some h;obtain⟨vy,h2,h⟩:=Rd.bind_some h;obtain⟨vz,h3,h⟩:=Rd.bind_some h;obtain⟨ex,kx⟩:=iW dI h1;obtain⟨ey,ky⟩:=mi dI h2;obtain⟨ez,kz⟩:=mi dI h3;have run:∀b,a.eval x= .bool b->(execOp a.eval o).run P w= .ok (.value (if b then a.eval y else a.eval z)) w:=by intro b hb;unfold execOp;rw[ho];simp only[hb,asBool,cq,cU,bG]
 cases cx with
 |b b=>
  replace ex:a.eval x= .bool b:=ex;have both:∀p q,vy= .v ak [.b p]->vz= .v ak [.b q]->gV P E σ a w c o e.ws:=by
   rintro p q rfl rfl;refine gd cj dI hd h (v:=if b then a.eval y else a.eval z) ?_ (λn hn=>by simp[cM,bN]at hn) (run b ex);cases b
   ·exact ez
   ·exact ey
  have lft:vy= .j_ []->gV P E σ a w c o e.ws:=by
   rintro rfl;replace h:(Rd.ret (⟨!b,dw o vz⟩:sV)).val σ=ah e:=by cases vz<;>exact h
   obtain rfl:=aF h;have hb:b=false:=by simpa using hc
   subst hb;exact gJ cj dI hd ez kz (run ak ex)
  have rgt:vz= .j_ []->vy≠ .j_ []->gV P E σ a w c o e.ws:=by
   rintro rfl iy;replace h:(Rd.ret (⟨b,dw o vy⟩:sV)).val σ=ah e:=by
    cases vy with
    |un=>exact h
    |j_ l=>cases l with
     |nil=>exact cS rfl iy
     |cons=>exact h
    |v g xs=>cases g<;>(rcases xs with _|⟨⟨⟩,_|⟨_,_⟩⟩<;>exact h)
   obtain rfl:=aF h;have hb:b=true:=hc;subst hb;exact gJ cj dI hd ey ky (run ai ex)
  cases vy with
  |un=>cases vz with
   |un=>simp at h
   |j_ l=>cases l with
    |nil=>exact rgt rfl (by simp)
    |cons=>simp at h
   |v=>simp at h
  |j_ l=>cases l with
   |nil=>exact lft rfl
   |cons=>cases vz with
    |un=>simp at h
    |j_ l2=>cases l2 with
     |nil=>exact rgt rfl (by simp)
     |cons=>simp at h
    |v=>simp at h
  |v g xs=>cases vz with
   |un=>simp at h
   |j_ l2=>cases l2 with
    |nil=>exact rgt rfl (by simp)
    |cons=>simp at h
   |v g2 ys=>cases g<;>cases g2<;>rcases xs with _|⟨⟨⟩,_|⟨_,_⟩⟩<;>rcases ys with _|⟨⟨⟩,_|⟨_,_⟩⟩<;>first|(simp at h;done)|exact both _ _ rfl rfl
 |i=>simp at h
 |s=>simp at h
 |sh=>simp at h
 |nl=>simp at h
 |own=>simp at h
 |vw=>simp at h
 |bp=>simp at h
 |rp=>simp at h
 |sp=>simp at h
 |mU=>simp at h
 |ip=>simp at h
 |fn=>simp at h
 |fp=>simp at h
theorem aaG(hE:eH P E)(cj:Ok E σ w c)(dI:fC E σ a w c)(hd:∀d,o.dst=ah d->d<a.tmps.size){t:aC}{p:dx}(ho:o.op= .load t p)(h:(l_ E nm o).val σ=ah e):gV P E σ a w c o e.ws:=by
 simp only[l_,ho]at h;obtain⟨ti,h1,h⟩:=Rd.bind_some h;obtain⟨pv,h2,h⟩:=Rd.bind_some h;obtain⟨xs,h3,h⟩:=Rd.bind_some h;have ht:=dZ h1;obtain⟨ep,_⟩:=iW dI h2;obtain⟨⟨b,of,cs,hv,hl,hcell,hlen,XI⟩,Kf⟩:=Vc cj ep h3;have hr:=D_ (P:=P) w hE ht hl hcell;refine gd cj dI hd h (v:=if ti.agg=ai then .agg cs.toArray else cs.headD .nilIface) ?_ (λn hn=>by obtain⟨x,hx,hn⟩:=bL.1 hn;exact Kf x hx n hn) ?_
 ·show qi E w c ti.agg xs _;cases uw:ti.agg with
  |true=>rw[bB rfl];exact⟨cs.toArray,rfl,by simp[hl,hlen],λj x hj=>by obtain⟨u,hu,hx⟩:=XI j x hj;exact⟨u,by simpa using hu,hx⟩⟩
  |false=>
   obtain⟨d,_,_,hn⟩:=hE.desc t ti ht;have h1:ti.ks.length=1:=by rcases hn uw with ⟨k,h,_⟩|⟨h,_⟩|⟨h,_⟩|⟨e',h,_⟩|⟨h,_⟩<;>simp[h]
   obtain⟨x,rfl⟩:=gX.1 (hlen.trans h1);obtain⟨v,rfl⟩:=gX.1 (hl.trans h1);obtain⟨u,hu,hx⟩:=XI 0 x rfl;simp at hu;subst hu;simpa [qi]using hx
 ·unfold execOp;rw[ho];exact iT (by rw[hv];exact hr)
theorem Iz(hE:eH P E)(cj:Ok E σ w c)(dI:fC E σ a w c)(hd:∀d,o.dst=ah d->d<a.tmps.size){t f:aC}{p:dx}(ho:o.op= .fieldAddr t p f)(h:(l_ E nm o).val σ=ah e):gV P E σ a w c o e.ws:=by
 simp only[l_,ho]at h;obtain⟨pv,h1,h⟩:=Rd.bind_some h;obtain⟨q,h2,h⟩:=Rd.bind_some h;obtain⟨ep,kp⟩:=iW dI h1;unfold T3 at h2;cases hf:E.fo t f with
 |none=>rw[hf]at h2;simp at h2
 |some r=>
  obtain⟨off,n⟩:=r;rw[hf]at h2;have run:∀b o',a.eval p= .pointer (ah (ad b o'))->(execOp a.eval o).run P w= .ok (.value (.pointer (ah (ad b (o'+off))))) w:=by intro b o' hp;unfold execOp;rw[ho];exact iT (by rw[hp];exact KN (P:=P) w hE hf b o')
  cases pv with
  |bp iE j=>obtain rfl:=aF h2;exact gd cj dI hd h (s:= .v ak [.bp iE (j+off)]) (v:= .pointer (ah (ad (c.P iE).blk (j+off)))) rfl (λn hn=>kp n (by simpa [cM,bN]using hn)) (run _ _ ep)
  |rp iE i j=>obtain rfl:=aF h2;refine gd cj dI hd h (s:= .v ak [.rp iE i (j+off)]) ?_ (λn hn=>kp n (by simpa [cM,bN]using hn)) (run _ _ ep.2);exact⟨ep.1,by rw[show(c.P iE).off+i*(c.P iE).sz+j+off=(c.P iE).off+i*(c.P iE).sz+(j+off)by omega]⟩
  |sp e2 xs i j=>obtain rfl:=aF h2;obtain⟨b,o',cp,ti,e1,Yt,e3,e4⟩:=ep;refine gd cj dI hd h (s:= .v ak [.sp e2 xs i (j+off)]) ?_ (λn hn=>by simp[cM,bN]at hn) (run _ _ e4);exact⟨b,o',cp,ti,e1,Yt,e3,by rw[show o'+i*ti.ks.length+j+off=o'+i*ti.ks.length+(j+off)by omega]⟩
  |ip iE i j i2 j2=>obtain rfl:=aF h2;refine gd cj dI hd h (s:= .v ak [.ip iE i j i2 (j2+off)]) ?_ (λn hn=>kp n (by simpa [cM,bN]using hn)) (run _ _ ep.1.2.2);exact⟨⟨ep.1.1,ep.1.2.1,by rw[show(c.G iE i j).off+i2*(c.G iE i j).sz+j2+off=(c.G iE i j).off+i2*(c.G iE i j).sz+(j2+off)by omega]⟩,ep.2⟩
  |fp cs j=>obtain rfl:=aF h2;obtain⟨b,e1,Yt⟩:=ep;exact gd cj dI hd h (s:= .v ak [.fp cs (j+off)]) ⟨b,rfl,Yt⟩ (λn hn=>by simp[cM,bN]at hn) (run _ _ e1)
  |i=>simp at h2
  |b=>simp at h2
  |s=>simp at h2
  |sh=>simp at h2
  |nl=>simp at h2
  |own=>simp at h2
  |vw=>simp at h2
  |mU=>simp at h2
  |fn=>simp at h2
theorem MP(cj:Ok E σ w c)(dI:fC E σ a w c)(hd:∀d,o.dst=ah d->d<a.tmps.size){x:dx}{i:aC}(ho:o.op= .extract x i)(h:(l_ E nm o).val σ=ah e):gV P E σ a w c o e.ws:=by
 simp only[l_,ho]at h;obtain⟨v,h1,h⟩:=Rd.bind_some h;obtain⟨ev,kv⟩:=mi dI h1;split at h
 ·rename_i l;split at h
  ·rename_i agg xs hl;obtain⟨vs,e1,e2,e3⟩:=ev;obtain⟨u,hu,hv⟩:=e3 i agg xs hl;refine gd cj dI hd h (v:=u) hv (λn hn=>kv n (bL.2 ⟨(agg,xs),aR hl,hn⟩)) ?_;unfold execOp;rw[ho];refine iT ?_;rw[e1];simp only[Instr.extract,hu];rfl
  ·simp at h
 ·simp at h
theorem aaI(cj:Ok E σ w c)(dI:fC E σ a w c)(hd:∀d,o.dst=ah d->d<a.tmps.size){x:dx}{op:UnOp}{t:aC}(ho:o.op= .unOp op t x)(h:(l_ E nm o).val σ=ah e):gV P E σ a w c o e.ws:=by
 simp only[l_,ho]at h;obtain⟨v,h1,h⟩:=Rd.bind_some h;obtain⟨ev,kv⟩:=iW dI h1;cases op with
 |not=>
  cases v with
  |b b=>refine gd cj dI hd h (v:= .bool !b) rfl (λn hn=>by simp[cM,bN]at hn) ?_;unfold execOp;rw[ho];refine iT ?_;rw[show a.eval x= .bool b from ev];rfl
  |_=>simp at h
 |neg=>
  cases v with
  |i k n=>refine gd cj dI hd h (v:= .int k (k.wrap (0-n))) rfl (λn hn=>by simp[cM,bN]at hn) ?_;unfold execOp;rw[ho];refine iT ?_;rw[show a.eval x= .int k n from ev];rfl
  |_=>simp at h
 |_=>cases v<;>simp at h
theorem rN{E:fS}{σ:St}{t:aC}{k:Ck}(h:(pX E t).val σ=ah k):∃ti,E.ty t=ah ti/\ti.agg=ak/\ti.ks=[k]:=by
 obtain⟨ti,h1,h2⟩:=Rd.bind_some h;split at h2
 ·rename_i k' h3 h4;simp at h2;subst h2;exact⟨ti,dZ h1,h3,h4⟩
 ·simp at h2
theorem kI{E:fS}{σ:St}(hE:eH P E){t e:aC}(h:(pX E t).val σ=ah (.l e)):P.underlying t=ah (.slice e):=by obtain⟨ti,h1,h2,h3⟩:=rN h;exact pd hE h1 h2 h3
theorem k_{E:fS}{σ:St}(hE:eH P E){t:aC}(h:(pX E t).val σ=ah .s):P.underlying t=ah .string:=by obtain⟨ti,h1,h2,h3⟩:=rN h;obtain⟨d,hd,_,hn⟩:=hE.desc t ti h1;rcases hn h2 with ⟨k,h,_⟩|⟨h,_⟩|⟨h,rfl⟩|⟨e',h,_⟩|⟨h,_⟩<;>rw[h3]at h<;>simp_all
theorem VP(hE:eH P E)(cj:Ok E σ w c)(dI:fC E σ a w c)(hd:∀d,o.dst=ah d->d<a.tmps.size){x y:dx}{t:aC}(ho:o.op= .index t x y)(h:(l_ E nm o).val σ=ah e)(hc:e.cond=ai):gV P E σ a w c o e.ws:=by
 simp only[l_,ho]at h;obtain⟨kk,h0,h⟩:=Rd.bind_some h;obtain⟨v,h1,h⟩:=Rd.bind_some h;obtain⟨⟨k,n⟩,h2,h⟩:=Rd.bind_some h;obtain⟨ev,kv⟩:=iW dI h1;have ei:=pY dI h2;cases kk with
 |s=>cases v with
  |s s=>
   have hu:=k_ hE h0;refine GJ cj dI hd h hc (v:= .int .u8 ((s.data.getD n.toNat 0).toNat:aw)) (λ_=>rfl) (uA rfl) (λhb=> ?_);simp only[aK,bj]at hb;obtain⟨h0,h3⟩:=hb;unfold execOp;rw[ho];refine iT ?_;replace ev:a.eval x= .string s:=ev.1;have jb:n.toNat<s.size:=by omega
   have hg:s[n.toNat]? =ah s[n.toNat]:=by simp[jb]
   have hs:s[n.toNat]=s.data.getD n.toNat 0:=by rw[Array.getD,dif_pos (show n.toNat<s.data.size from jb)];rfl
   simp only[ev,ei,Instr.index,asIntOf,cq,cU,bG,run_underlying hu,h0,if_true,hg,hs]
  |_=>simp at h
 |_=>simp at h
end
end Go.FG

namespace Go.FG
section
variable {P:c6} {E:fS} {σ:St} {a:Act} {w:bJ} {c:e9} {o:fB} {nm:aC} {e:sV}
theorem qB{α:Type}{b:aY}{x:α}{σ:St}{r:α}(h:(bif b then Rd.ret x else Rd.fail).val σ=ah r):b=ai/\r=x:=by obtain⟨h1,h2⟩:=cR h;exact⟨h1,(aF h2).symm⟩
theorem e_{p:Pl}(h:p.nil=ak):lO p= .slice (ah (ad p.blk p.off)) p.n p.cap:=by unfold lO;rw[bH (by simp[h])]
theorem nE{p:Pl}(h:p.nil=ai):lO p= .slice aj 0 0:=by unfold lO;rw[bB h]
theorem ld{nm e:aC}{ex:aY}{xs:aQ}(cj:Ok E σ w c)(h:σ (db nm)= .o (.row e ex xs)):
  (c.P nm).n=xs.length/\((c.P nm).nil=ai->xs=[])/\∃ti,E.ty e=ah ti/\(c.P nm).sz=ti.ks.length/\((c.P nm).nil=ak->(c.P nm).n<=(c.P nm).cap/\(c.P nm).cap<=maxLen):=by have mS:=cj.obj nm _ h;obtain⟨ti,h1,h2,_⟩:=mS.sh;exact⟨mS.at_.n,λhn=>(mS.at_.nil hn).1,ti,h1,h2,λhn=>by obtain⟨_,_,h3,h4,_⟩:=mS.at_.mem hn;exact⟨h3,h4⟩⟩
theorem mV{nm e:aC}{xs:aQ}(cj:Ok E σ w c)(h:σ (db nm)= .o (.fV e xs)):
  (c.P nm).n=xs.length/\((c.P nm).nil=ai->xs=[])/\∃ti,E.ty e=ah ti/\(c.P nm).sz=ti.ks.length:=by
 obtain⟨h1,h2,h3⟩:=cj.obj nm _ h;refine⟨h2,λhn=> ?_,h3⟩
 rw[nE hn]at h1;cases h1;rfl
theorem IA(hE:eH P E)(cj:Ok E σ w c)(dI:fC E σ a w c)(hd:∀d,o.dst=ah d->d<a.tmps.size){x y:dx}{t:aC}(ho:o.op= .indexAddr t x y)(h:(l_ E nm o).val σ=ah e)(hc:e.cond=ai):gV P E σ a w c o e.ws:=by
 simp only[l_,ho]at h;obtain⟨kk,h0,h⟩:=Rd.bind_some h;cases kk with
 |l el=>
  obtain⟨v,h1,h⟩:=Rd.bind_some h;obtain⟨⟨k,n⟩,h2,h⟩:=Rd.bind_some h;obtain⟨⟨b,q⟩,h3,h⟩:=Rd.bind_some h;obtain⟨ev,kv⟩:=iW dI h1;have ei:=pY dI h2;have hu:=kI hE h0;have run:∀te b o' m cp,E.ty el=ah te->a.eval x= .slice (ah (ad b o')) m cp->0<=n->n<(m:aw)->(execOp a.eval o).run P w= .ok (.value (.pointer (ah (ad b (o'+n.toNat*te.ks.length))))) w:=by intro te b o' m cp Mx hx h0 h1;unfold execOp;rw[ho];refine iT ?_;rw[hx,ei];exact KO (P:=P) w hE hu Mx b o' m cp k n h0 h1
  cases v with
  |sh e' xs=>
   obtain⟨E9,h3⟩:=qB h3;obtain⟨rfl,rfl⟩:=bV h3;have:=aU E9;subst this;obtain rfl:=aF h;have hc:(decide (0<=n)&&decide (n<(xs.length:aw)))=true:=hc;simp only[aK,bj]at hc;obtain⟨c0,c1⟩:=hc;have ev:dg E w c.K (a.eval x) (.l el xs):=ev;generalize hv:a.eval x=v at ev;have iy:0<xs.length:=by omega
   cases ev with
   |nl=>simp at iy
   |l _ _ bb oo cc ti U ht QD hmx hK hs hcell fP=>exact gJ cj dI hd (s:= .v ak [.sp el xs n.toNat 0]) (v:= .pointer (ah (ad bb (oo+n.toNat*ti.ks.length)))) ⟨bb,oo,cc,ti, .l el xs bb oo cc ti U ht QD hmx hK hs hcell fP,by omega,ht,rfl⟩ (λn hn=>by simp[cM,bN]at hn) (run ti bb oo _ cc ht hv c0 c1)
  |own iE=>
   obtain⟨ob,hg,h3⟩:=Rd.bind_some h3;have hg:=dy hg;have main:∀(xs:aQ),(c.P iE).n=xs.length->((c.P iE).nil=ai->xs=[])->(∃ti,E.ty el=ah ti/\(c.P iE).sz=ti.ks.length)->(b,q)=(decide (0<=n)&&decide (n<(xs.length:aw)),AV.rp iE n.toNat 0)->gV P E σ a w c o e.ws:=by
    intro xs hn ju YY hbq;obtain⟨rfl,rfl⟩:=bV hbq;obtain rfl:=aF h;have hc:(decide (0<=n)&&decide (n<(xs.length:aw)))=true:=hc;simp only[aK,bj]at hc;obtain⟨c0,c1⟩:=hc;obtain⟨ti,ht,fZ⟩:=YY;have QH:(c.P iE).nil=false:=by
     cases hq:(c.P iE).nil with
     |false=>rfl
     |true=>rw[ju hq]at c1;simp at c1;omega
    have hx:a.eval x= .slice (ah (ad (c.P iE).blk (c.P iE).off)) (c.P iE).n (c.P iE).cap:=by rw[<-e_ QH];exact ev
    refine gJ cj dI hd (s:= .v ak [.rp iE n.toNat 0]) (v:= .pointer (ah (ad (c.P iE).blk ((c.P iE).off+n.toNat*ti.ks.length)))) ⟨by omega,by rw[fZ];rfl⟩ (λm hm=>by simp[cM,bN]at hm;subst hm;rw[hg];simp) (run ti _ _ _ _ ht hx c0 (by rw[hn];exact c1))
   cases ob with
   |row e' ex xs=>obtain⟨E9,h4⟩:=qB h3;have:=aU E9;subst this;obtain⟨i1,i2,ti,i3,i4,_⟩:=ld cj hg;exact main xs i1 i2 ⟨ti,i3,i4⟩ h4
   |fV e' xs=>obtain⟨E9,h4⟩:=qB h3;have:=aU E9;subst this;obtain⟨i1,i2,i3⟩:=mV cj hg;exact main xs i1 i2 i3 h4
   |_=>simp at h3
  |vw iE lo hi=>
   obtain⟨ob,hg,h3⟩:=Rd.bind_some h3;have hg:=dy hg;have main:∀(xs:aQ),(c.P iE).n=xs.length->(∃ti,E.ty el=ah ti/\(c.P iE).sz=ti.ks.length)->(b,q)=(decide (0<=n)&&decide (n<((hi-lo:aC):aw)),AV.rp iE (lo+n.toNat) 0)->gV P E σ a w c o e.ws:=by
    intro xs hn YY hbq;obtain⟨rfl,rfl⟩:=bV hbq;obtain rfl:=aF h;have hc:(decide (0<=n)&&decide (n<((hi-lo:aC):aw)))=true:=hc;simp only[aK,bj]at hc;obtain⟨c0,c1⟩:=hc;obtain⟨ti,ht,fZ⟩:=YY;obtain⟨v1,v2,v3,v4⟩:=ev;have QH:(c.P iE).nil=false:=by
     cases hq:(c.P iE).nil with
     |false=>rfl
     |true=>
      obtain⟨f1,_⟩:(c.P iE).n=0/\True:=by
       have mS:=cj.obj iE _ hg;rw[hn];cases ob with
       |row e' ex ys=>obtain⟨j1,j2,_⟩:=ld cj hg;rw[<-hn,j1,j2 hq];simp
       |fV e' ys=>obtain⟨j1,j2,_⟩:=mV cj hg;rw[<-hn,j1,j2 hq];simp
       |_=>simp at h3
      omega
    rcases v4 QH with ⟨u1,hx⟩|⟨u1,oo,u2,hx⟩
    ·refine gJ cj dI hd (s:= .v ak [.rp iE (lo+n.toNat) 0]) (v:= .pointer (ah (ad (c.P iE).blk ((c.P iE).off+lo*(c.P iE).sz+n.toNat*ti.ks.length)))) ⟨by omega, ?_⟩ (λm hm=>by simp[cM,bN]at hm;subst hm;rw[hg];simp) (run ti _ _ _ _ ht hx c0 c1);rw[<-fZ,show(c.P iE).off+(lo+n.toNat)*(c.P iE).sz+0=(c.P iE).off+lo*(c.P iE).sz+n.toNat*(c.P iE).sz by rw[dn];omega]
    ·exfalso;have QD:(c.P iE).n<=(c.P iE).cap:=by
      cases ob with
      |row e' ex ys=>obtain⟨_,_,_,_,_,j⟩:=ld cj hg;exact(j QH).1
      |fV e' ys=>
       obtain⟨j1,j2,_⟩:=cj.obj iE _ hg;rw[e_ QH]at j1;by_cases hz:0<ys.length
       ·obtain⟨t3,U,L⟩:=j1.Ks hz;rw[j2];exact L.cap
       ·omega
      |_=>simp at h3
     omega
   cases ob with
   |row e' ex xs=>obtain⟨E9,h4⟩:=qB h3;have:=aU E9;subst this;obtain⟨i1,i2,ti,i3,i4,_⟩:=ld cj hg;exact main xs i1 ⟨ti,i3,i4⟩ h4
   |fV e' xs=>obtain⟨E9,h4⟩:=qB h3;have:=aU E9;subst this;obtain⟨i1,i2,i3⟩:=mV cj hg;exact main xs i1 i3 h4
   |_=>simp at h3
  |mU iE i j=>
   obtain⟨ob,hg,h3⟩:=Rd.bind_some h3;have hg:=dy hg;cases ob with
   |row e' ex xs=>
    cases ex with
    |false=>simp at h3
    |true=>
     obtain⟨te,ht,h3⟩:=Rd.bind_some h3;have ht:=dZ ht;split at h3
     ·rename_i e2 zA;obtain⟨E9,h3⟩:=qB h3;obtain⟨rfl,rfl⟩:=bV h3;have:=aU E9;subst this;obtain rfl:=aF h;obtain⟨⟨iV,hx⟩,hFv⟩:=ev;obtain⟨⟨tj,htj,fZ,mE⟩,gk,_⟩:=cj.obj iE _ hg;obtain rfl:te=tj:=aF (ht.symm.trans htj);obtain⟨zs,y',hy,hyj,uu,_,tk,Io,sR,Mw,Ff,oH⟩:=uI (c:=c) gk mE iV zA;have hc:(decide (0<=n)&&decide (n<((gD (ar xs i j)).length:aw)))=true:=hc;rw[fD hy hyj]at hc;simp only[aK,bj]at hc;obtain⟨c0,c1⟩:=hc;have c1:n<(zs.length:aw):=c1;have QH:(c.G iE i j).nil=false:=by
       cases hq:(c.G iE i j).nil with
       |false=>rfl
       |true=>have:=(oH.nil hq).1;subst this;simp at c1;omega
      rw[e_ QH]at hx;refine gJ cj dI hd (s:= .v ak [.ip iE i j n.toNat 0]) (v:= .pointer (ah (ad (c.G iE i j).blk ((c.G iE i j).off+n.toNat*tk.ks.length)))) ⟨⟨iV,by rw[oH.n];omega,by rw[Mw];rfl⟩,hFv⟩ (λm hm=>by simp[cM,bN]at hm;subst hm;rw[hg];simp) (run tk _ _ _ _ Io hx c0 (by rw[oH.n];exact c1))
     ·simp at h3
   |_=>simp at h3
  |_=>simp[Ux]at h3
 |_=>simp at h
end
end Go.FG

namespace Go.FG
section
variable {P:c6} {E:fS} {σ:St} {a:Act} {w:bJ} {c:e9} {o:fB} {nm:aC} {e:sV}
theorem CE(dI:fC E σ a w c){x:ay dx}{d n:aw}(h:(n7 x d).val σ=ah n):(x=aj/\n=d)\/∃y k,x=ah y/\a.eval y= .int k n:=by
 cases x with
 |none=>exact .inl ⟨rfl,(aF h).symm⟩
 |some y=>obtain⟨⟨k,m⟩,h1,h2⟩:=Rd.bind_some h;obtain rfl:=aF h2;exact .inr ⟨y,k,rfl,pY dI h1⟩
theorem GD{x:bn}{k:nh}{n:aw}{y:aC}{code:BoundsCode}(hx:x= .int k n)(h0:0<=n)(h1:n<=y):(qP x y code).run P w= .ok n.toNat w:=by subst hx;simp only[qP,asIntOf,cq,cU,bG,h0,h1,and_self,if_true]
theorem D7(dI:fC E σ a w c){isS:aY}{len cap:aC}{lo hi:ay dx}{l h:aw}(hl:(n7 lo 0).val σ=ah l)(hh:(n7 hi len).val σ=ah h)(h0:0<=l)(h1:l<=h)(h2:h<=cap):
  (mY isS len cap (lo.map a.eval) (hi.map a.eval) aj).run P w= .ok (l.toNat,h.toNat,cap) w:=by
 have low:∀v,lo=ah v->∀code,(qP (a.eval v) h.toNat code).run P w= .ok l.toNat w:=by
  intro v hv code;rcases CE dI hl with ⟨hx,_⟩|⟨y,k,hx,hy⟩
  ·rw[hx]at hv;cases hv
  ·rw[hx]at hv;cases hv;exact GD hy h0 (by omega)
 have high:∀v,hi=ah v->∀code,(qP (a.eval v) cap code).run P w= .ok h.toNat w:=by
  intro v hv code;rcases CE dI hh with ⟨hx,_⟩|⟨y,k,hx,hy⟩
  ·rw[hx]at hv;cases hv
  ·rw[hx]at hv;cases hv;exact GD hy (by omega) h2
 have l0:lo=aj->l=0:=λhx=>by rcases CE dI hl with ⟨_,hn⟩|⟨y,k,hy,_⟩;exact hn;rw[hx]at hy;cases hy
 have XG:hi=aj->h=len:=λhx=>by rcases CE dI hh with ⟨_,hn⟩|⟨y,k,hy,_⟩;exact hn;rw[hx]at hy;cases hy
 cases lo with
 |none=>
  obtain rfl:=l0 rfl;cases hi with
  |none=>obtain rfl:=XG rfl;simp[mY]
  |some v=>simp[mY,high v rfl]
 |some u=>
  cases hi with
  |none=>obtain rfl:=XG rfl;have:=low u rfl;simp only[eT]at this;simp[mY,this]
  |some v=>simp[mY,high v rfl,low u rfl]
theorem MY{t:aC}(hu:P.underlying t=ah .string)(dI:fC E σ a w c){lo hi:ay dx}{l h:aw}{s:aq}(hl:(n7 lo 0).val σ=ah l)(hh:(n7 hi s.size).val σ=ah h)(h0:0<=l)(h1:l<=h)(h2:h<=(s.size:aw)):
  (qq t (.string s) (lo.map a.eval) (hi.map a.eval) aj).run P w= .ok (.string (s.extract l.toNat h.toNat)) w:=by simp only[qq,Instr.slice,cq,run_underlying hu,bG,Option.isSome_none,dt,if_false,D7 (P:=P) dI hl hh h0 h1 h2,cU]
theorem kL{t el:aC}{te:TI}(hE:eH P E)(hu:P.underlying t=ah (.slice el))(he:E.ty el=ah te)(dI:fC E σ a w c){lo hi:ay dx}{l h:aw}{A:ay Addr}{n cp:aC}(hl:(n7 lo 0).val σ=ah l)(hh:(n7 hi n).val σ=ah h)(h0:0<=l)(h1:l<=h)(h2:h<=(cp:aw)):
  (qq t (.slice A n cp) (lo.map a.eval) (hi.map a.eval) aj).run P w= .ok (.slice (if cp=l.toNat then A else A.map (·.add (l.toNat*te.ks.length))) (h.toNat-l.toNat) (cp-l.toNat)) w:=by obtain⟨inf,lZ,fZ,_⟩:=hE.info el te he;simp only[qq,Instr.slice,cq,run_underlying hu,bG,D7 (P:=P) dI hl hh h0 h1 h2,sizeOf,typeInfo,program,ni,lZ,fZ,cU]
theorem ua{xs:aQ}{lo hi i:aC}:(e8 xs lo hi)[i]? =if i<hi-lo then xs[lo+i]? else none:=by unfold e8;rw[ea];split<;>simp[dV]
theorem mo{xs:aQ}{lo hi:aC}(h:hi<=xs.length):(e8 xs lo hi).length=hi-lo:=by unfold e8;simp;omega
theorem DG{xs:aQ}{lo hi:aC}{y:az CV}(h:y∈e8 xs lo hi):y∈xs:=kT (kU h)
theorem af3{K:aC->Prop}{v:bn}{el:aC}{xs:aQ}{te:TI}(he:E.ty el=ah te)(h:dg E w K v (.l el xs)){lo hi:aC}(h1:lo<=hi)(h2:hi<=xs.length):
  ∃A n cp,v= .slice A n cp/\n=xs.length/\n<=cp\/∃A cp,v= .slice A 0 cp/\xs=[]:=by
 cases h with
 |nl=>exact⟨aj,0,0, .inr ⟨_,_,rfl,rfl⟩⟩
 |l _ _ b oo cp ti U ht hc=>exact⟨_,_,_, .inl ⟨rfl,rfl,hc⟩⟩
theorem Gl{K:aC->Prop}{A:ay Addr}{n cp el:aC}{xs:aQ}{te:TI}(he:E.ty el=ah te)(h:dg E w K (.slice A n cp) (.l el xs)){lo hi:aC}(h1:lo<=hi)(h2:hi<=xs.length):
  n=xs.length/\dg E w K (.slice (if cp=lo then A else A.map (·.add (lo*te.ks.length))) (hi-lo) (cp-lo)) (.l el (e8 xs lo hi)):=by
 generalize hv:Value.slice A n cp=v at h;generalize hx:CV.l el xs=x at h;cases h with
 |i=>cases hx
 |b=>cases hx
 |s=>cases hx
 |nl=>
  cases hx;cases hv;have:hi=0:=by simpa using h2
  subst this;have:lo=0:=by omega
  subst this;exact⟨rfl, .nl _ _ _⟩
 |l _ _ b oo cp ti U ht hc hm hK hs hcell fP=>
  cases hx;cases hv;refine⟨rfl, ?_⟩
  obtain rfl:te=ti:=aF (he.symm.trans ht);by_cases hz:hi-lo=0
  ·rw[hz];have:e8 xs lo hi=[]:=by unfold e8;rw[hz];simp
   rw[this];exact .nl _ _ _
  ·rw[bH (by omega)];simp only[jc,Addr.nZ];have hl:=mo (xs:=xs) (lo:=lo) h2;rw[<-hl];refine .l el (e8 xs lo hi) b (oo+lo*te.ks.length) (cp-lo) te (λi j=>U (lo+i) j) ht (by rw[hl];omega) (by omega) hK (λy hy=>hs y (DG hy)) (λi j y x lZ hj=> ?_) (λi j y x lZ hj=> ?_)
   ·rw[ua]at lZ;split at lZ
    ·have:=hcell (lo+i) j y x lZ hj;rw[<-this];congr 2;rw[dn];omega
    ·cases lZ
   ·rw[ua]at lZ;split at lZ
    ·exact fP (lo+i) j y x lZ hj
    ·cases lZ
theorem VQ(hE:eH P E)(cj:Ok E σ w c)(dI:fC E σ a w c)(hd:∀d,o.dst=ah d->d<a.tmps.size){x:dx}{t:aC}{lo hi mx:ay dx}(ho:o.op= .slice t x lo hi mx)(h:(l_ E nm o).val σ=ah e)(hc:e.cond=ai):gV P E σ a w c o e.ws:=by
 simp only[l_,ho]at h;cases mx with
 |some m=>simp at h
 |none=>
 obtain⟨kk,hk,h⟩:=Rd.bind_some h;obtain⟨v,h1,h⟩:=Rd.bind_some h;obtain⟨⟨b,q⟩,h3,h⟩:=Rd.bind_some h;obtain⟨ev,kv⟩:=iW dI h1;have exec:∀{u r:bn},a.eval x=u->(qq t u (lo.map a.eval) (hi.map a.eval) aj).run P w= .ok r w->(execOp a.eval o).run P w= .ok (.value r) w:=by intro u r hu hr;unfold execOp;rw[ho];exact iT (by rw[hu];exact hr)
 cases kk with
 |s=>cases v with
  |s s=>have hu:=k_ hE hk;obtain⟨l,hl,h3⟩:=Rd.bind_some h3;obtain⟨hh,B5,h3⟩:=Rd.bind_some h3;obtain⟨rfl,rfl⟩:=bV (aF h3);obtain rfl:=aF h;have hc:iA l hh s.size=true:=hc;simp only[iA,aK,bj]at hc;obtain⟨⟨c0,c1⟩,c2⟩:=hc;exact gJ cj dI hd (s:= .v ak [.s _]) (v:= .string _) ⟨rfl,by have h5:=ev.2;unfold CD at h5⊢;rw[yX];omega⟩ (λn hn=>by simp[cM,bN]at hn) (exec ev.1 (MY (P:=P) hu dI hl B5 c0 c1 c2))
  |_=>simp[M4]at h3
 |l el=>
  have hu:=kI hE hk;obtain⟨te,Mx,h3⟩:=Rd.bind_some h3;have Mx:=dZ Mx;cases v with
  |sh e' xs=>
   obtain⟨E9,h4⟩:=cR h3;have:=aU E9;subst this;obtain⟨l,hl,h4⟩:=Rd.bind_some h4;obtain⟨hh,B5,h4⟩:=Rd.bind_some h4;obtain⟨rfl,rfl⟩:=bV (aF h4);obtain rfl:=aF h;have hc:iA l hh xs.length=true:=hc;simp only[iA,aK,bj]at hc;obtain⟨⟨c0,c1⟩,c2⟩:=hc;have ev:dg E w c.K (a.eval x) (.l el xs):=ev;generalize hv:a.eval x=v at ev;cases ev with
   |nl _ A cp=>
    have h0:hh=0:=by simp at c2;omega
    have l0:l=0:=by omega
    subst h0;subst l0;have hr:=kL (P:=P) (te:=te) hE hu Mx dI (A:=A) (n:=0) (cp:=cp) hl B5 (by omega) (by omega) (by omega);exact gJ cj dI hd (s:= .v ak [.sh el (e8 [] (0:aw).toNat (0:aw).toNat)]) (.nl _ _ _) (λn hn=>by simp[cM,bN]at hn) (exec hv hr)
   |l _ _ bb oo cp ti U ht QD hmx hK hs hcell fP=>have hr:=kL (P:=P) (te:=ti) hE hu ht dI (A:=ah (ad bb oo)) (cp:=cp) hl B5 c0 c1 (by omega);have avk:=(Gl (lo:=l.toNat) (hi:=hh.toNat) ht (.l el xs bb oo cp ti U ht QD hmx hK hs hcell fP) (by omega) (by omega)).2;exact gJ cj dI hd (s:= .v ak [.sh el (e8 xs l.toNat hh.toNat)]) avk (λn hn=>by simp[cM,bN]at hn) (exec hv hr)
  |own iE=>
   obtain⟨ob,hg,h3⟩:=Rd.bind_some h3;have hg:=dy hg
   have main:∀(xs:aQ),(c.P iE).n=xs.length->((c.P iE).nil=ai->xs=[])->(∃ti,E.ty el=ah ti/\(c.P iE).sz=ti.ks.length)->((c.P iE).nil=ak->(c.P iE).n<=(c.P iE).cap)->
     ((n7 lo 0).bind λl=>(n7 hi xs.length).bind λh=>Rd.ret (iA l h xs.length,AV.vw iE l.toNat h.toNat)).val σ=ah (b,q)->gV P E σ a w c o e.ws:=by
    intro xs hn ju YY hcp h4
    obtain⟨l,hl,h4⟩:=Rd.bind_some h4
    obtain⟨hh,B5,h4⟩:=Rd.bind_some h4
    obtain⟨rfl,rfl⟩:=bV (aF h4)
    obtain rfl:=aF h
    have hc:iA l hh xs.length=true:=hc
    simp only[iA,aK,bj]at hc
    obtain⟨⟨c0,c1⟩,c2⟩:=hc
    obtain⟨ti,ht,fZ⟩:=YY
    have ev:a.eval x=lO (c.P iE):=ev
    cases hq:(c.P iE).nil with
    |true=>
     rw[nE hq]at ev;have hx:=ju hq;subst hx;have h0:hh=0:=by simp at c2;omega
     have l0:l=0:=by omega
     subst h0;subst l0;have hr:=kL (P:=P) (te:=ti) hE hu ht dI (A:=aj) (n:=0) (cp:=0) hl B5 (by omega) (by omega) (by simp);refine gJ cj dI hd (s:= .v ak [.vw iE 0 0]) (v:= .slice aj 0 0) ⟨cJ _,bk _,λ_=>rfl,λhf=>by rw[hq]at hf;cases hf⟩ (λm hm=>by simp[cM,bN]at hm;subst hm;rw[hg];simp) (exec ev (by simpa using hr))
    |false=>
     rw[e_ hq]at ev;have hcp:=hcp hq;have hr:=kL (P:=P) (te:=ti) hE hu ht dI (A:=ah (ad (c.P iE).blk (c.P iE).off)) (n:=(c.P iE).n) (cp:=(c.P iE).cap) hl (by rw[hn];exact B5) c0 c1 (by omega);refine gJ cj dI hd (s:= .v ak [.vw iE l.toNat hh.toNat]) ⟨by omega,by omega,λhf=>(by rw[hq]at hf;cases hf),λ_=> ?_⟩ (λm hm=>by simp[cM,bN]at hm;subst hm;rw[hg];simp) (exec ev hr);by_cases hle:(c.P iE).cap=l.toNat
     ·refine .inr ⟨hle.symm,(c.P iE).off,by omega, ?_⟩;rw[bB hle,show hh.toNat-l.toNat=0 by omega,show(c.P iE).cap-l.toNat=0 by omega]
     ·refine .inl ⟨by omega, ?_⟩;rw[bH hle];simp only[jc,Addr.nZ,fZ]
   cases ob with
   |row e' ex xs=>obtain⟨E9,h4⟩:=cR h3;have:=aU E9;subst this;obtain⟨i1,i2,ti,i3,i4,i5⟩:=ld cj hg;exact main xs i1 i2 ⟨ti,i3,i4⟩ (λh=>(i5 h).1) h4
   |fV e' xs=>
    obtain⟨E9,h4⟩:=cR h3;have:=aU E9;subst this;obtain⟨i1,i2,i3⟩:=mV cj hg;refine main xs i1 i2 i3 (λQH=> ?_) h4;obtain⟨j1,j2,_⟩:=cj.obj iE _ hg;rw[e_ QH]at j1;by_cases hz:0<xs.length
    ·obtain⟨t3,U,L⟩:=j1.Ks hz;rw[j2];exact L.cap
    ·omega
   |_=>simp at h3
  |vw iE Fk E_=>
   obtain⟨ob,hg,h3⟩:=Rd.bind_some h3;have hg:=dy hg
   have main:(∃ti,E.ty el=ah ti/\(c.P iE).sz=ti.ks.length)->((c.P iE).nil=ai->(c.P iE).n=0)->((c.P iE).nil=ak->(c.P iE).n<=(c.P iE).cap)->
     ((n7 lo 0).bind λl=>(n7 hi ((E_-Fk:aC):aw)).bind λh=>Rd.ret (iA l h ((E_-Fk:aC):aw),AV.vw iE (Fk+l.toNat) (Fk+h.toNat))).val σ=ah (b,q)->gV P E σ a w c o e.ws:=by
    intro YY ju hcp h4
    obtain⟨l,hl,h4⟩:=Rd.bind_some h4
    obtain⟨hh,B5,h4⟩:=Rd.bind_some h4
    obtain⟨rfl,rfl⟩:=bV (aF h4)
    obtain rfl:=aF h
    have hc:iA l hh ((E_-Fk:aC):aw)=true:=hc
    simp only[iA,aK,bj]at hc
    obtain⟨⟨c0,c1⟩,c2⟩:=hc
    obtain⟨ti,ht,fZ⟩:=YY
    obtain rfl:te=ti:=aF (Mx.symm.trans ht)
    obtain⟨v1,v2,v3,v4⟩:=ev
    cases hq:(c.P iE).nil with
    |true=>
     have hz:=ju hq;have ex:=v3 hq;have hi0:E_=0:=by omega
     have lo0:Fk=0:=by omega
     subst hi0;subst lo0;have h0:hh=0:=by simp at c2;omega
     have l0:l=0:=by omega
     subst h0;subst l0;have hr:=kL (P:=P) (te:=te) hE hu ht dI (A:=aj) (n:=0) (cp:=0) hl (by simpa using B5) (by omega) (by omega) (by simp);refine gJ cj dI hd (s:= .v ak [.vw iE (0+(0:aw).toNat) (0+(0:aw).toNat)]) (v:= .slice aj 0 0) ⟨cJ _,bk _,λ_=>rfl,λhf=>by rw[hq]at hf;cases hf⟩ (λm hm=>by simp[cM,bN]at hm;subst hm;rw[hg];simp) (exec ex (by simpa using hr))
    |false=>
     have hcp:=hcp hq;rcases v4 hq with ⟨u1,ex⟩|⟨u1,oo,u2,ex⟩
     ·have hr:=kL (P:=P) (te:=te) hE hu ht dI (A:=ah (ad (c.P iE).blk ((c.P iE).off+Fk*(c.P iE).sz))) (n:=E_-Fk) (cp:=(c.P iE).cap-Fk) hl B5 c0 c1 (by omega);refine gJ cj dI hd (s:= .v ak [.vw iE (Fk+l.toNat) (Fk+hh.toNat)]) ⟨by omega,by omega,λhf=>(by rw[hq]at hf;cases hf),λ_=> ?_⟩ (λm hm=>by simp[cM,bN]at hm;subst hm;rw[hg];simp) (exec ex hr);by_cases hle:(c.P iE).cap-Fk=l.toNat
      ·refine .inr ⟨by omega,(c.P iE).off+Fk*(c.P iE).sz, ?_, ?_⟩
       ·have:=b_ (c.P iE).sz (Nat.le_of_lt u1);omega
       ·rw[bB hle,show hh.toNat-l.toNat=0 by omega,show(c.P iE).cap-Fk-l.toNat=0 by omega]
      ·refine .inl ⟨by omega, ?_⟩;rw[bH hle];simp only[jc,Addr.nZ,fZ];rw[show Fk+hh.toNat-(Fk+l.toNat)=hh.toNat-l.toNat by omega,show(c.P iE).cap-(Fk+l.toNat)=(c.P iE).cap-Fk-l.toNat by omega,dn,lX]
     ·have hr:=kL (P:=P) (te:=te) hE hu ht dI (A:=ah (ad (c.P iE).blk oo)) (n:=0) (cp:=0) hl (by rw[show E_-Fk=0 by omega]at B5;exact B5) c0 c1 (by omega);have h0:hh=0:=by omega
      have l0:l=0:=by omega
      subst h0;subst l0;refine gJ cj dI hd (s:= .v ak [.vw iE (Fk+(0:aw).toNat) (Fk+(0:aw).toNat)]) (v:= .slice (ah (ad (c.P iE).blk oo)) 0 0) ⟨cJ _,by simp;omega,λhf=>(by rw[hq]at hf;cases hf),λ_=> .inr ⟨by simpa using u1,oo,u2,rfl⟩⟩ (λm hm=>by simp[cM,bN]at hm;subst hm;rw[hg];simp) (exec ex (by simpa using hr))
   cases ob with
   |row e' ex xs=>obtain⟨E9,h4⟩:=cR h3;have:=aU E9;subst this;obtain⟨i1,i2,ti,i3,i4,i5⟩:=ld cj hg;exact main ⟨ti,i3,i4⟩ (λhn=>by rw[i1,i2 hn];rfl) (λh=>(i5 h).1) h4
   |fV e' xs=>
    obtain⟨E9,h4⟩:=cR h3;have:=aU E9;subst this;obtain⟨i1,i2,i3⟩:=mV cj hg;refine main i3 (λhn=>by rw[i1,i2 hn];rfl) (λQH=> ?_) h4;obtain⟨j1,j2,_⟩:=cj.obj iE _ hg;rw[e_ QH]at j1;by_cases hz:0<xs.length
    ·obtain⟨t3,U,L⟩:=j1.Ks hz;rw[j2];exact L.cap
    ·omega
   |_=>simp at h3
  |nl=>
   obtain⟨l,hl,h4⟩:=Rd.bind_some h3;obtain⟨hh,B5,h4⟩:=Rd.bind_some h4;obtain⟨rfl,rfl⟩:=bV (aF h4);obtain rfl:=aF h;have hc:iA l hh 0=true:=hc;simp only[iA,aK,bj]at hc;obtain⟨⟨c0,c1⟩,c2⟩:=hc;have h0:hh=0:=by omega
   have l0:l=0:=by omega
   subst h0;subst l0;have hr:=kL (P:=P) (te:=te) hE hu Mx dI (A:=aj) (n:=0) (cp:=0) hl B5 (by omega) (by omega) (by simp);exact gJ cj dI hd (s:= .v ak [.nl]) (v:= .slice aj 0 0) rfl (λn hn=>by simp[cM,bN]at hn) (exec ev (by simpa using hr))
  |_=>simp[Wp]at h3
 |_=>simp[M4]at h3
end
end Go.FG

namespace Go.FG
section
variable {P:c6} {E:fS} {σ:St} {a:Act} {w:bJ} {c:e9} {o:fB} {nm:aC} {e:sV}
theorem Rb(cj:Ok E σ w c){x:AV}{v:bn}(hx:eL E w c x v){el:aC}{xs:aQ}(h:(mv E x).val σ=ah (el,xs)):∃A cp,v= .slice A xs.length cp:=by
 cases x with
 |sh e' ys=>
  obtain⟨rfl,rfl⟩:=bV (aF h);have hx:dg E w c.K v (.l e' ys):=hx;cases hx with
  |nl=>exact⟨_,_,rfl⟩
  |l=>exact⟨_,_,rfl⟩
 |own n=>
  obtain⟨ob,hg,h⟩:=Rd.bind_some h;have hg:=dy hg;have hx:v=lO (c.P n):=hx;have main:∀ys:aQ,(c.P n).n=ys.length->((c.P n).nil=ai->ys=[])->∃A cp,v= .slice A ys.length cp:=by
   intro ys h1 h2;cases hq:(c.P n).nil with
   |true=>rw[hx,nE hq,h2 hq];exact⟨_,_,rfl⟩
   |false=>rw[hx,e_ hq,h1];exact⟨_,_,rfl⟩
  cases ob with
  |row e' ex ys=>obtain⟨rfl,rfl⟩:=bV (aF h);obtain⟨i1,i2,_⟩:=ld cj hg;exact main _ i1 i2
  |fV e' ys=>obtain⟨rfl,rfl⟩:=bV (aF h);obtain⟨i1,i2,_⟩:=mV cj hg;exact main _ i1 i2
  |_=>simp at h
 |vw n lo hi=>
  obtain⟨ob,hg,h⟩:=Rd.bind_some h;have hg:=dy hg;obtain⟨v1,v2,v3,v4⟩:=hx;have main:∀ys:aQ,(c.P n).n=ys.length->((c.P n).nil=ai->ys=[])->((c.P n).nil=ak->(c.P n).n<=(c.P n).cap)->∃A cp,v= .slice A (e8 ys lo hi).length cp:=by
   intro ys h1 h2 h3;rw[mo (by omega)];cases hq:(c.P n).nil with
   |true=>have:=h2 hq;subst this;rw[v3 hq,show hi-lo=0 by simp at h1;omega];exact⟨_,_,rfl⟩
   |false=>
    rcases v4 hq with ⟨_,h⟩|⟨u1,oo,_,h⟩
    ·rw[h];exact⟨_,_,rfl⟩
    ·have:=h3 hq;rw[h,show hi-lo=0 by omega];exact⟨_,_,rfl⟩
  cases ob with
  |row e' ex ys=>obtain⟨rfl,rfl⟩:=bV (aF h);obtain⟨i1,i2,ti,_,_,i5⟩:=ld cj hg;exact main _ i1 i2 (λh=>(i5 h).1)
  |fV e' ys=>
   obtain⟨rfl,rfl⟩:=bV (aF h);obtain⟨i1,i2,_⟩:=mV cj hg;refine main _ i1 i2 (λQH=> ?_);obtain⟨j1,j2,_⟩:=cj.obj n _ hg;rw[e_ QH]at j1;by_cases hz:0<ys.length
   ·obtain⟨t3,U,L⟩:=j1.Ks hz;rw[j2];exact L.cap
   ·omega
  |_=>simp at h
 |mU n i j=>
  obtain⟨ob,hg,h⟩:=Rd.bind_some h;have hg:=dy hg;cases ob with
  |row e' ex ys=>
   cases ex with
   |false=>simp at h
   |true=>
   obtain⟨te,ht,h⟩:=Rd.bind_some h;have ht:=dZ ht;split at h
   ·rename_i e2 zA;obtain⟨rfl,rfl⟩:=bV (aF h);obtain⟨⟨iV,hx⟩,_⟩:=hx;obtain⟨⟨tj,htj,fZ,mE⟩,gk,_⟩:=cj.obj n _ hg;obtain rfl:te=tj:=aF (ht.symm.trans htj);obtain⟨zs,y',hy,hyj,uu,_,tk,Io,sR,Mw,Ff,oH⟩:=uI (c:=c) gk mE iV zA;rw[fD hy hyj];cases hq:(c.G n i j).nil with
    |true=>rw[hx,nE hq,show gD (.l e2 zs)=zs from rfl,(oH.nil hq).1];exact⟨_,_,rfl⟩
    |false=>rw[hx,e_ hq,oH.n];exact⟨_,_,rfl⟩
   ·simp at h
  |_=>simp at h
 |_=>simp[mv]at h
theorem mP{cl:Call}{b:Builtin}(ho:o.op= .call cl)(hb:cl.callee= .builtin b):
  ∃cs,(execOp a.eval o).run P w=(builtin b cl.argTypes o.type cs (cl.args.map a.eval)).run P w:=by unfold execOp;rw[ho];simp only[resolve,hb,cq,cU,bG,invoke];exact⟨_,rfl⟩
theorem nA{α:Type}{x:dp α}{y:α}(h:x.toList=[y]):x= #[y]:=by apply sC;simpa using h
theorem Eh{α:Type}{x:dp α}{y z:α}(h:x.toList=[y,z]):x= #[y,z]:=by apply sC;simpa using h
theorem aip(hE:eH P E)(cj:Ok E σ w c)(dI:fC E σ a w c)(hd:∀d,o.dst=ah d->d<a.tmps.size){cl:Call}(ho:o.op= .call cl)(hb:cl.callee= .builtin .len)(h:(l_ E nm o).val σ=ah e):gV P E σ a w c o e.ws:=by
 simp only[l_,ho,hb]at h;split at h
 ·rename_i x t hx ht;obtain⟨k,hk,h⟩:=Rd.bind_some h;obtain⟨v,h1,h⟩:=Rd.bind_some h;obtain⟨n,h2,h⟩:=Rd.bind_some h;obtain⟨ev,kv⟩:=iW dI h1;have hx:=nA hx;have ht:=nA ht;have exec:∀r,(wL #[t] o.type #[a.eval x]).run P w= .ok r w->(execOp a.eval o).run P w= .ok (.value r) w:=by intro r hr;obtain⟨cs,Jh⟩:=mP (P:=P) (a:=a) (w:=w) ho hb;rw[Jh,hx,ht];simp only[builtin,EJ,eC,CY];exact iT hr
  have fin:∀m:aC,n=m->(wL #[t] o.type #[a.eval x]).run P w= .ok (goInt m) w->gV P E σ a w c o e.ws:=by intro m hm hr;subst hm;exact gd cj dI hd h (v:=goInt m) rfl (λn hn=>by simp[cM,bN]at hn) (exec _ hr)
  cases k with
  |s=>cases v with
   |s s=>obtain rfl:=aF h2;have ev:a.eval x= .string s:=ev.1;exact fin s.size rfl (by rw[ev];simp[wL,run_underlying (k_ hE hk)])
   |_=>simp[ahL]at h2
  |l el=>
   have hu:=kI hE hk;have sl:∀A (m:aC) cp,a.eval x= .slice A m cp->n=m->gV P E σ a w c o e.ws:=by intro A m cp hv hn;exact fin m hn (by rw[hv];simp[wL,run_underlying hu])
   have gen:∀(el':aC) (xs:aQ),(mv E v).val σ=ah (el',xs)->n=xs.length->gV P E σ a w c o e.ws:=by intro el' xs hr hn;obtain⟨A,cp,hv⟩:=Rb cj ev hr;exact sl _ _ _ hv hn
   cases v with
   |nl=>obtain rfl:=aF h2;exact sl aj 0 0 ev rfl
   |vw m lo hi=>
    obtain⟨ob,hg,h2⟩:=Rd.bind_some h2;have hg:=dy hg;have r1:∃(e1:aC) (ys:aQ),(mv E (.vw m lo hi)).val σ=ah (e1,e8 ys lo hi)/\(c.P m).n=ys.length/\n=((hi-lo:aC):aw):=by
     cases ob with
     |row e1 ex ys=>exact⟨e1,ys,by simp[mv,jI,hg],(ld cj hg).1,(aF h2).symm⟩
     |fV e1 ys=>exact⟨e1,ys,by simp[mv,jI,hg],(mV cj hg).1,(aF h2).symm⟩
     |_=>simp at h2
    obtain⟨e1,ys,h5,h6,h7⟩:=r1;refine gen e1 _ h5 ?_;rw[mo (by have:=ev.2.1;omega)];exact h7
   |_=>obtain⟨⟨el',xs⟩,hr,h3⟩:=Rd.bind_some h2;obtain rfl:=aF h3;exact gen el' xs hr rfl
  |_=>simp[ahL]at h2
 ·simp at h
end
end Go.FG

namespace Go.FG
section
variable {P:c6} {E:fS} {σ:St} {a:Act} {w:bJ} {c:e9} {o:fB} {nm:aC} {e:sV}
theorem AX{α:Type}{x:ay α}{σ:St}{r:α}(h:(VS x).val σ=ah r):x=ah r:=by
 cases x with
 |none=>simp[VS]at h
 |some y=>exact h
theorem aio(hE:eH P E)(cj:Ok E σ w c)(dI:fC E σ a w c)(hd:∀d,o.dst=ah d->d<a.tmps.size){cl:Call}(ho:o.op= .call cl)(hb:cl.callee= .builtin .cap)(h:(l_ E nm o).val σ=ah e):gV P E σ a w c o e.ws:=by
 simp only[l_,ho,hb]at h;split at h
 ·rename_i x t hx ht;obtain⟨k,hk,h⟩:=Rd.bind_some h;have hx:=nA hx;have ht:=nA ht;cases k with
  |l el=>
   obtain⟨v,h1,h⟩:=Rd.bind_some h;obtain⟨ev,kv⟩:=iW dI h1;have hu:=kI hE hk;cases v with
   |nl=>refine gd cj dI hd h (v:=goInt 0) rfl (λn hn=>by simp[cM,bN]at hn) ?_;obtain⟨cs,Jh⟩:=mP (P:=P) (a:=a) (w:=w) ho hb;rw[Jh,hx,ht];simp only[builtin,EJ,eC,CY];refine iT ?_;rw[show a.eval x= .slice aj 0 0 from ev];simp[Builtin.cap_,run_underlying hu]
   |_=>simp at h
  |_=>simp at h
 ·simp at h
theorem MH(dI:fC E σ a w c)(mx:aY):∀(r:az dx) (k:nh) (n:aw) (v:AV),(xZ mx r k n).val σ=ah v->
  ∃m,v= .i k m/\((r.map a.eval).foldlM (if mx then FA else FC) (.int k n)).run P w= .ok (.int k m) w:=by
 intro r;induction r with
 |nil=>intro k n v h;obtain rfl:=aF h;exact⟨n,rfl,rfl⟩
 |cons x r ih=>
  intro k n v h;obtain⟨⟨k2,m⟩,h1,h2⟩:=Rd.bind_some h;have hx:=pY dI h1;obtain⟨q,hq,hr⟩:=ih k (il mx n m) v h2;refine⟨q,hq, ?_⟩
  simp only[eC,List.foldlM_cons,cq,hx];cases mx with
  |true=>
   have:(FA (.int k n) (.int k2 m)).run P w= .ok (.int k (il ai n m)) w:=by simp[FA,il]
   simp only[if_true,this,bG]at hr⊢;exact hr
  |false=>
   have:(FC (.int k n) (.int k2 m)).run P w= .ok (.int k (il ak n m)) w:=by simp[FC,il]
   simp only[dt,if_false,this,bG]at hr⊢;exact hr
theorem Gw(mx:aY)(cj:Ok E σ w c)(dI:fC E σ a w c)(hd:∀d,o.dst=ah d->d<a.tmps.size){cl:Call}(ho:o.op= .call cl)(hb:cl.callee= .builtin (if mx then .max else .min))(h:(l_ E nm o).val σ=ah e):gV P E σ a w c o e.ws:=by
 have main:∀x r,cl.args.toList=x::r->((DR x).bind λ(k,n)=>(xZ mx r k n).bind λv=>Bg o v).val σ=ah e->gV P E σ a w c o e.ws:=by
  intro x r hx h;obtain⟨⟨k,n⟩,h1,h⟩:=Rd.bind_some h;obtain⟨v,h2,h⟩:=Rd.bind_some h;have ex:=pY dI h1;obtain⟨m,rfl,hr⟩:=MH (P:=P) dI mx r k n v h2;refine gd cj dI hd h (v:= .int k m) rfl (λn hn=>by simp[cM,bN]at hn) ?_;obtain⟨cs,Jh⟩:=mP (P:=P) (a:=a) (w:=w) ho hb;have sk:cl.args.map a.eval=((x::r).map a.eval).toArray:=by rw[<-hx];apply sC;simp
  rw[Jh,sk];cases mx with
  |true=>simp only[if_true,builtin];refine iT ?_;simp only[Builtin.max_,eC,ex];exact hr
  |false=>simp only[dt,if_false,builtin];refine iT ?_;simp only[Builtin.min_,eC,ex];exact hr
 cases mx with
 |true=>
  simp only[l_,ho,hb,if_true]at h;split at h
  ·rename_i x r hx;exact main x r hx h
  ·simp at h
 |false=>
  simp only[l_,ho,hb,dt,if_false]at h;split at h
  ·rename_i x r hx;exact main x r hx h
  ·simp at h
theorem Wi{op:BinOp}{t:aC}{k:nh}{m n:aw}{b:aY}{v:AV}(hs:QM op=ak)(h:agE op k m n=ah (b,v))(hb:b=ai):
  ∃u,eL E w c v u/\bN v=[]/\(binOp op t (.int k m) (.int k n)).run P w= .ok u w:=by
 subst hb;cases op<;>simp only[agE,jw,jd,true_and,reduceCtorEq]at h<;>first|(simp[QM]at hs;done)|skip
 case quo=>
  obtain⟨h1,rfl⟩:=h;have hn:¬n=0:=by simpa using h1
  exact⟨_,rfl,rfl,by simp[binOp,Op.intDiv,hn]⟩
 case rem=>
  obtain⟨h1,rfl⟩:=h;have hn:¬n=0:=by simpa using h1
  exact⟨_,rfl,rfl,by simp[binOp,Op.intDiv,hn]⟩
 all_goals (subst h;exact⟨_,rfl,rfl,by simp[binOp,Op.intArith,Op.intBits,Op.intCmp]⟩)
theorem Wj{op:BinOp}{t:aC}{m n:aq}{b:aY}{v:AV}(hs:QM op=ak)(h:agG op m n=ah (b,v))(hb:b=ai):
  ∃u,eL E w c v u/\bN v=[]/\(binOp op t (.string m) (.string n)).run P w= .ok u w:=by
 subst hb;cases op<;>simp only[agG,jw,jd,true_and,reduceCtorEq]at h<;>first|(simp[QM]at hs;done)|skip
 case add=>
  obtain⟨h1,rfl⟩:=h;have h1:=cF h1;refine⟨_,⟨rfl,by unfold CD;rw[dH];omega⟩,rfl, ?_⟩
  have:¬(((m.size+n.size:aC):aw)>ao.max):=by
   have:ao.max=9223372036854775807:=by decide
   omega
  simp only[binOp,Op.stringOp,bH this,cU]
 all_goals (subst h;exact⟨_,rfl,rfl,by simp[binOp,Op.stringOp]⟩)
theorem yJ{op:BinOp}{t:aC}{x y:dx}{u v:bn}(hu:∀xs,u≠ .agg xs)(hn:u≠ .nilIface):(eqGuard op t x y u v).run P w= .ok () w:=by unfold eqGuard;cases op<;>cases u<;>first|rfl|(exact cS rfl (hu _))|(exact cS rfl hn)|(cases v<;>rfl)
theorem yI{P:c6}(w:bJ){t:aC}(h:P.underlying t=ah .bool)(m n:aY):(binOp .eql t (.bool m) (.bool n)).run P w= .ok (.bool (m==n)) w/\(binOp .neq t (.bool m) (.bool n)).run P w= .ok (.bool !(m==n)) w:=by
 have h1:(Op.equal t (.bool m) (.bool n)).run P w= .ok (m==n) w:=by show(Op.equalIn (9999+1) t (.bool m) (.bool n)).run P w=_;exact run_equalIn_bool w 9999 t m n h
 simp only[binOp,cq,h1,bG,cU];exact⟨trivial,trivial⟩
theorem D1{xs:az AV}{ks:az Ck}(hk:xs.map Iq=ks)(hp:plain ks=ai){vals:dp bn}(hs:vals.size=xs.length)(hv:∀(j:aC) (a:AV),xs[j]? =ah a->∃u:bn,vals[j]? =ah u/\eL E w c a u):vals=(xs.map lU).toArray:=by
 apply sC;apply Xv;intro j;simp only[cZ,bI];cases hx:xs[j]? with
 |none=>have:=List.getElem?_eq_none_iff.1 hx;simp;omega
 |some a=>
  obtain⟨u,hu,ha⟩:=hv j a hx;rw[hu];have hm:Iq a∈ks:=by rw[<-hk];exact cw.2 ⟨a,aR hx,rfl⟩
  have mB:=bA.1 hp _ hm;cases a<;>simp[Iq]at mB<;>first|(have h1:u=_:=ha;rw[h1];rfl)|(have h1:u=_:=ha.1;rw[h1];rfl)
theorem Yo(hE:eH P E){op:BinOp}{t:aC}{x y:dx}{sx sy:SV}{ux uy:bn}(ex:jh E w c sx ux)(ey:jh E w c sy uy){b:aY}{v:AV}(h3:(agF E t op sx sy).val σ=ah (b,v))(hc:b=ai):
  ∃u,eL E w c v u/\bN v=[]/\(do eqGuard op t x y ux uy;binOp op t ux uy).run P w= .ok u w:=by
 have fin:∀u,eL E w c v u->bN v=[]->(do eqGuard op t x y ux uy;binOp op t ux uy).run P w= .ok u w->∃u,eL E w c v u/\bN v=[]/\(do eqGuard op t x y ux uy;binOp op t ux uy).run P w= .ok u w:=
  λu hu hn hr=>⟨u,hu,hn,hr⟩
 have pl:∀u1 u2 r,ux=u1->uy=u2->(∀xs,u1≠ .agg xs)->u1≠ .nilIface->(binOp op t u1 u2).run P w= .ok r w->(do eqGuard op t x y ux uy;binOp op t ux uy).run P w= .ok r w:=by intro u1 u2 r h1 h2 h3 h4 h5;rw[h1,h2];simp only[cq,yJ (P:=P) (w:=w) (op:=op) (t:=t) (x:=x) (y:=y) (v:=u2) h3 h4,bG,h5]
 unfold agF at h3;split at h3
 ·rename_i p q;have ex:eL E w c p ux:=ex;have ey:eL E w c q uy:=ey;cases mE:QM op with
  |true=>
   rw[mE]at h3;replace h3:=AX h3;cases p<;>cases q<;>first|(simp[shV]at h3;done)|skip
   cases op<;>simp only[shV,jw,jd,reduceCtorEq]at h3<;>(obtain⟨rfl,rfl⟩:=h3)
   ·refine fin _ rfl rfl (pl _ _ _ ex ey (by simp) (by simp) ?_);have:¬(_:aw)<0:=Int.not_lt.2 (cF hc);simp[binOp,Op.shift,this]
   ·refine fin _ rfl rfl (pl _ _ _ ex ey (by simp) (by simp) ?_);have:¬(_:aw)<0:=Int.not_lt.2 (cF hc);simp[binOp,Op.shift,this]
  |false=>
   rw[mE]at h3;obtain⟨k,hk,h3⟩:=Rd.bind_some h3;replace h3:=AX h3;cases p with
   |i k1 m=>
    cases q with
    |i k2 n=>
     have h9:=h3;simp only[LP]at h9;split at h9
     ·rename_i Ui;subst Ui;obtain⟨u,hu,hn,hr⟩:=Wi (P:=P) (t:=t) (E:=E) (c:=c) (w:=w) mE h9 hc;exact fin u hu hn (pl _ _ _ ex ey (by simp) (by simp) hr)
     ·cases h9
    |_=>simp[LP]at h3
   |s m=>
    cases q with
    |s n=>obtain⟨u,hu,hn,hr⟩:=Wj (P:=P) (t:=t) (E:=E) (c:=c) (w:=w) mE h3 hc;exact fin u hu hn (pl _ _ _ ex.1 ey.1 (by simp) (by simp) hr)
    |_=>simp[LP]at h3
   |b m=>
    cases q with
    |b n=>
     have ach:k= .b->P.underlying t=ah .bool:=by rintro rfl;obtain⟨ti,q1,q2,q3⟩:=rN hk;obtain⟨d,hd',_,hn⟩:=hE.desc t ti q1;rcases hn q2 with ⟨k,h,_⟩|⟨h,rfl⟩|⟨h,_⟩|⟨e',h,_⟩|⟨h,_⟩<;>rw[q3]at h<;>simp_all
     cases op<;>cases k<;>simp only[LP,jw,jd,reduceCtorEq]at h3<;>(obtain⟨rfl,rfl⟩:=h3)
     ·refine fin _ rfl rfl (pl _ _ _ ex ey (by simp) (by simp) ?_);exact(yI (P:=P) w (ach rfl) _ _).1
     ·refine fin _ rfl rfl (pl _ _ _ ex ey (by simp) (by simp) ?_);exact(yI (P:=P) w (ach rfl) _ _).2
    |_=>simp[LP]at h3
   |_=>simp[LP]at h3
 ·rename_i xs ys;obtain⟨ti,ht,h3⟩:=Rd.bind_some h3;have ht:=dZ ht;obtain⟨h4,h3⟩:=cR h3;simp only[aK]at h4;obtain⟨⟨⟨⟨h5,h6⟩,h7⟩,h8⟩,h9⟩:=h4;have h7:=rL h7;have h8:=rL h8;replace h3:=AX h3;obtain⟨X,hX,sX,vX⟩:=ex;obtain⟨Y,hY,sY,vY⟩:=ey;have eX:=D1 h7 h9 sX vX;have eY:=D1 h8 h9 sY vY;cases hq:Yz xs ys with
  |none=>rw[hq]at h3;cases h3
  |some r=>
   rw[hq]at h3;obtain⟨r1,r2⟩:=hE.eq t ti h6 ht w x y xs ys r hq h7 h8;cases op<;>first|(simp[isEq]at h5;done)|skip
   ·obtain⟨_,rfl⟩:=bV (aF h3);exact fin _ rfl rfl (by rw[hX,hY,eX,eY];exact r1)
   ·obtain⟨_,rfl⟩:=bV (aF h3);exact fin _ rfl rfl (by rw[hX,hY,eX,eY];exact r2)
 ·simp at h3
theorem VL(hE:eH P E)(cj:Ok E σ w c)(dI:fC E σ a w c)(hd:∀d,o.dst=ah d->d<a.tmps.size){op:BinOp}{t ty:aC}{x y:dx}(ho:o.op= .binOp op t x y ty)(h:(l_ E nm o).val σ=ah e)(hc:e.cond=ai):gV P E σ a w c o e.ws:=by simp only[l_,ho]at h;obtain⟨sx,h1,h⟩:=Rd.bind_some h;obtain⟨sy,h2,h⟩:=Rd.bind_some h;obtain⟨⟨b,v⟩,h3,h⟩:=Rd.bind_some h;obtain rfl:=aF h;obtain⟨u,hu,hn,hr⟩:=Yo (P:=P) (x:=x) (y:=y) hE (mi dI h1).1 (mi dI h2).1 h3 hc;refine gJ cj dI hd (s:= .v ak [v]) hu (λn kG=>by simp[cM,hn]at kG) ?_;unfold execOp;rw[ho];exact iT hr
end
end Go.FG

namespace Go.FG
theorem Nj{p:Pl}(hn:p.nil=ak->p.n<=p.cap)(hz:p.nil=ai->p.n=0):xE p 0 p.n (lO p):=by
 refine⟨bk _,cJ _,λh=>nE h,λh=> ?_⟩
 rw[e_ h];by_cases hc:p.cap=0
 ·refine .inr ⟨hc.symm,p.off,Nat.le_add_right _ _, ?_⟩;have:=hn h;rw[hc,show p.n=0 by omega]
 ·refine .inl ⟨by omega, ?_⟩;simp
theorem qO(xs:aQ):e8 xs 0 xs.length=xs:=by unfold e8;simp
def oe(w:bJ)(v:bn)(xs:aQ)(sz:aC)(R:aC->aC->bn->CV->Prop):Prop:=
 ∃A cp,v= .slice A xs.length cp/\(xs≠[]->∃b o,A=ah (ad b o)/\∀(i:aC) (y:az CV) (j:aC) (x:CV),xs[i]? =ah y->y[j]? =ah x->∃u:bn,w.cell? (ad b (o+i*sz+j))=ah u/\R i j u x)
theorem oe.imp{w:bJ}{v:bn}{xs:aQ}{sz:aC}{R R':aC->aC->bn->CV->Prop}(h:oe w v xs sz R)(hR:∀(i:aC) (y:az CV) (j:aC) (x:CV) (u:bn),xs[i]? =ah y->y[j]? =ah x->R i j u x->R' i j u x):oe w v xs sz R':=by
 obtain⟨A,cp,h1,h2⟩:=h;refine⟨A,cp,h1,λiy=> ?_⟩
 obtain⟨b,o,h3,h4⟩:=h2 iy;refine⟨b,o,h3,λi y j x hi hj=> ?_⟩
 obtain⟨u,hu,hr⟩:=h4 i y j x hi hj;exact⟨u,hu,hR i y j x u hi hj hr⟩
theorem Nc{w:bJ}{p:Pl}{xs:aQ}{R:aC->aC->bn->CV->Prop}{lo hi:aC}{v:bn}(h:jg w p xs R)(hv:xE p lo hi v):oe w v (e8 xs lo hi) p.sz (λi j u x=>R (lo+i) j u x):=by
 obtain⟨v1,v2,v3,v4⟩:=hv;have hl:=mo (xs:=xs) (lo:=lo) (hi:=hi) (by rw[<-h.n];exact v2);cases hq:p.nil with
 |true=>
  have hx:=(h.nil hq).1;have h0:=h.n;rw[hx]at h0;refine⟨aj,0, ?_,λiy=>cS (by rw[hx];unfold e8;simp) iy⟩
  rw[v3 hq,hl];have:p.n=0:=h0;congr 1;omega
 |false=>
  obtain⟨vals,hb,Ul,YM,mA,hc⟩:=h.mem hq;rcases v4 hq with ⟨u1,rfl⟩|⟨u1,oo,u2,rfl⟩
  ·refine⟨_,_,by rw[hl],λiy=>⟨_,_,rfl,λi y j x lZ hj=> ?_⟩⟩
   rw[ua]at lZ;split at lZ
   ·obtain⟨u,hu,hr⟩:=hc (lo+i) y j x lZ hj;refine⟨u, ?_,hr⟩
    rw[hb.cell,<-hu];congr 1;rw[dn];omega
   ·cases lZ
  ·have h0:hi-lo=0:=by omega
   refine⟨_,_,by rw[hl,h0],λiy=>cS (gj (hl.trans h0)) iy⟩
theorem Ki{E:fS}{w:bJ}{K:aC->Prop}{p:Pl}{e:aC}{te:TI}{xs:aQ}(he:E.ty e=ah te)(h:dg E w K (lO p) (.l e xs))(hn:p.n=xs.length)(hs:p.sz=te.ks.length){lo hi:aC}{v:bn}(hv:xE p lo hi v):dg E w K v (.l e (e8 xs lo hi)):=by
 obtain⟨v1,v2,v3,v4⟩:=hv;have hl:=mo (xs:=xs) (lo:=lo) (hi:=hi) (by rw[<-hn];exact v2);have nil:hi-lo=0->e8 xs lo hi=[]:=λh0=>gj (hl.trans h0);cases hq:p.nil with
 |true=>
  rw[nE hq]at h;have hx:xs=[]:=by cases h;rfl
  subst hx;have hn:p.n=0:=hn;rw[v3 hq,nil (by omega)];exact .nl _ _ _
 |false=>
  rw[e_ hq]at h;rcases v4 hq with ⟨u1,rfl⟩|⟨u1,oo,u2,rfl⟩
  ·have:=(Gl (lo:=lo) (hi:=hi) he h v1 (by rw[<-hn];exact v2)).2;rw[bH (by omega)]at this;simpa only[jc,Addr.nZ,hs]using this
  ·by_cases hz:hi-lo=0
   ·rw[nil hz];exact .nl _ _ _
   ·have h1:0<xs.length:=by omega
    obtain⟨t3,U,L⟩:=h.Ks h1;have:=L.cap;omega
theorem Bc{E:fS}{w:bJ}{K:aC->Prop}{v:bn}{e:aC}{te:TI}{xs:aQ}(he:E.ty e=ah te)(h:dg E w K v (.l e xs)):oe w v xs te.ks.length (λ_ _ u x=>dg E w K u x)/\∀y∈xs,y.map CV.kd=te.ks:=by
 cases h with
 |nl=>exact⟨⟨_,_,rfl,λh=>cS rfl h⟩,λy hy=>by cases hy⟩
 |l _ _ b o cp ti U ht hc hm hK hs hcell fP=>obtain rfl:te=ti:=aF (he.symm.trans ht);exact⟨⟨_,_,rfl,λ_=>⟨b,o,rfl,λi y j x hi hj=>⟨U i j,hcell i j y x hi hj,fP i j y x hi hj⟩⟩⟩,hs⟩
theorem pq{E:fS}{w:bJ}{K:aC->Prop}{u:bn}{x:CV}(h:dg E w K u x)(hl:uz x=ak):Sc u x:=by
 cases h with
 |i=>exact⟨rfl,trivial⟩
 |b=>exact⟨rfl,trivial⟩
 |s _ h=>exact⟨rfl,h⟩
 |nl=>simp[uz]at hl
 |l=>simp[uz]at hl
theorem kM{E:fS}{w:bJ}{K:aC->Prop}{u:bn}{x:CV}(hl:uz x=ak)(h:Sc u x):dg E w K u x:=by
 obtain⟨h1,h2⟩:=h;subst h1;cases x with
 |i k n=>exact .i k n
 |b x=>exact .b x
 |s x=>exact .s x h2
 |l=>simp[uz]at hl
theorem uL{E:fS}{w:bJ}{G:aC->aC->Pl}{i j:aC}{u:bn}{x:CV}(h:XC E w G i j u x)(hl:uz x=ak):Sc u x:=by
 cases x with
 |l=>simp[uz]at hl
 |i=>exact h
 |b=>exact h
 |s=>exact h
theorem uJ{E:fS}{w:bJ}{G:aC->aC->Pl}{i j:aC}{u:bn}{x:CV}(hl:uz x=ak)(h:Sc u x):XC E w G i j u x:=by
 cases x with
 |l=>simp[uz]at hl
 |i=>exact h
 |b=>exact h
 |s=>exact h
theorem oe.list{w:bJ}{v:bn}{xs:aQ}{sz:aC}{R:aC->aC->bn->CV->Prop}(h:oe w v xs sz R)(hs:∀y∈xs,y.length=sz):
  ∃(A:ay Addr) (cp:aC) (news:az bn),v= .slice A xs.length cp/\news.length=xs.length*sz/\(xs=[]\/∃b o,A=ah (ad b o)/\∀j u,news[j]? =ah u->w.cell? (ad b (o+j))=ah u)/\
   ∀(i:aC) (y:az CV) (j:aC) (x:CV),xs[i]? =ah y->y[j]? =ah x->∃u:bn,news[i*sz+j]? =ah u/\R i j u x:=by
 obtain⟨A,cp,rfl,h2⟩:=h;by_cases hx:xs=[]
 ·subst hx;exact⟨A,cp,[],rfl,by simp, .inl rfl,λi y j x hi hj=>by simp at hi⟩
 ·obtain⟨b,o,h3,h4⟩:=h2 hx;have ex:∀q,q<xs.length*sz->∃u,w.cell? (ad b (o+q))=ah u:=by
   intro q hq;have fZ:0<sz:=by rcases Es sz with h|h;(subst h;simp at hq);exact h
   have hi:q/sz<xs.length:=by rw[yZ fZ];exact hq
   have hj:q%sz<xs[q/sz].length:=by rw[hs _ (bu hi)];exact Et _ fZ
   obtain⟨u,hu,_⟩:=h4 (q/sz) xs[q/sz] (q%sz) (xs[q/sz][q%sz]) (by simp[hi]) (by simp[hj]);refine⟨u, ?_⟩
   rw[<-hu];congr 2;have:=K8 q sz;rw[FF]at this;omega
  refine⟨A,cp,(ch (xs.length*sz)).map (λq=>(w.cell? (ad b (o+q))).getD undef),rfl,by simp, .inr ⟨b,o,h3,λj u hj=> ?_⟩,λi y j x hi hj=> ?_⟩
  ·rw[bI]at hj;by_cases kg:j<xs.length*sz
   ·obtain⟨u',sq⟩:=ex j kg;simp only[kg,vN,jc,sq,zQ,jw]at hj;rw[sq,hj]
   ·rw[kS (l:=ch (xs.length*sz)) (by simpa using kg)]at hj;cases hj
  ·obtain⟨u,hu,hr⟩:=h4 i y j x hi hj;refine⟨u, ?_,hr⟩
   have hil:=(aT.1 hi).1;have kg:=(aT.1 hj).1;rw[hs y (aR hi)]at kg;have jb:i*sz+j<xs.length*sz:=by have:(i+1)*sz<=xs.length*sz:=b_ _ hil;rw[dn]at this;omega
   rw[bI,vN jb,jc];rw[show o+(i*sz+j)=o+i*sz+j by omega,hu];rfl
section
variable {P:c6} {E:fS} {σ:St} {a:Act} {w:bJ} {c:e9} {o:fB} {nm:aC} {e:sV}
theorem yG(cj:Ok E σ w c){nm e:aC}{ex:aY}{xs:aQ}(h:σ (db nm)= .o (.row e ex xs)){lo hi:aC}{v:bn}(hv:xE (c.P nm) lo hi v):
  ∃te,E.ty e=ah te/\(∀y∈e8 xs lo hi,y.map CV.kd=te.ks)/\oe w v (e8 xs lo hi) te.ks.length (λi j u x=>if ex=ai then XC E w (c.G nm) (lo+i) j u x else dg E w c.K u x):=by obtain⟨⟨ti,h1,h2,h3⟩,h4,_⟩:=cj.obj nm _ h;have:=Nc h4 hv;rw[h2]at this;exact⟨ti,h1,λy hy=>h3 y (DG hy),this⟩
theorem wG(cj:Ok E σ w c){nm e:aC}{ex:aY}{xs:aQ}(h:σ (db nm)= .o (.row e ex xs)):xE (c.P nm) 0 xs.length (lO (c.P nm)):=by obtain⟨h1,h2,ti,h3,h4,h5⟩:=ld cj h;rw[<-h1];exact Nj (λhn=>(h5 hn).1) (λhn=>by rw[h1,h2 hn];rfl)
theorem J9(cj:Ok E σ w c){nm e:aC}{xs:aQ}(h:σ (db nm)= .o (.fV e xs)):xE (c.P nm) 0 xs.length (lO (c.P nm)):=by
 obtain⟨h1,h2,ti,h3,h4⟩:=mV cj h;rw[<-h1];refine Nj (λhn=> ?_) (λhn=>by rw[h1,h2 hn];rfl);obtain⟨j1,j2,_⟩:=cj.obj nm _ h;rw[e_ hn]at j1;by_cases hz:0<xs.length
 ·obtain⟨t3,U,L⟩:=j1.Ks hz;rw[j2];exact L.cap
 ·omega
theorem po(cj:Ok E σ w c){nm e:aC}{xs:aQ}(h:σ (db nm)= .o (.fV e xs)){lo hi:aC}{v:bn}(hv:xE (c.P nm) lo hi v):dg E w c.K v (.l e (e8 xs lo hi)):=by obtain⟨h1,h2,ti,h3,h4⟩:=cj.obj nm _ h;exact Ki h3 h1 h2 h4 hv
theorem CA(cj:Ok E σ w c){nm e e2 i j:aC}{xs:aQ}{te:TI}(h:σ (db nm)= .o (.row e ai xs))(ht:E.ty e=ah te)(hk:te.ks[j]? =ah (.l e2))(hi:i<(c.P nm).n):
  ∃ys y t2,xs[i]? =ah y/\y[j]? =ah (.l e2 ys)/\E.ty e2=ah t2/\plain t2.ks=ai/\(c.G nm i j).sz=t2.ks.length/\(∀y∈ys,y.map CV.kd=t2.ks)/\jg w (c.G nm i j) ys (λ_ _ u x=>Sc u x)/\xE (c.G nm i j) 0 ys.length (lO (c.G nm i j)):=by
 obtain⟨⟨tj,htj,fZ,mE⟩,gk,_⟩:=cj.obj nm _ h;obtain rfl:te=tj:=aF (ht.symm.trans htj);obtain⟨zs,y,hy,hyj,uu,_,tk,Io,sR,Mw,Ff,oH⟩:=uI (c:=c) gk mE hi hk;refine⟨zs,y,tk,hy,hyj,Io,sR,Mw,Ff,oH, ?_⟩
 have:=Nj (p:=c.G nm i j) (λhn=>by obtain⟨_,_,q,_⟩:=oH.mem hn;exact q) (λhn=>by rw[oH.n,(oH.nil hn).1];rfl);rwa[oH.n]at this
theorem QI{E:fS}{w:bJ}{K:aC->Prop}{v:bn}{e:aC}{xs:aQ}(h:dg E w K v (.l e xs)):xs.length<=maxLen:=by
 cases h with
 |nl=>exact bk _
 |l _ _ b o cp ti U ht hc hm=>exact dc hc hm
theorem uH{w:bJ}{p:Pl}{xs:aQ}{R:aC->aC->bn->CV->Prop}(h:jg w p xs R):xs.length<=maxLen:=by
 cases hn:p.nil with
 |true=>rw[(h.nil hn).1];exact bk _
 |false=>obtain⟨vals,_,h2,h3,_⟩:=h.mem hn;rw[<-h.n];exact dc h2 h3
theorem K4(xs:aQ)(lo hi:aC):(e8 xs lo hi).length<=xs.length:=by unfold e8;simp;omega
theorem Bz(cj:Ok E σ w c){x:AV}{v:bn}(hx:eL E w c x v){el:aC}{xs:aQ}{te:TI}(h:(mv E x).val σ=ah (el,xs))(ht:E.ty el=ah te)(hp:plain te.ks=ai):
  oe w v xs te.ks.length (λ_ _ u x=>Sc u x)/\(∀y∈xs,y.map CV.kd=te.ks)/\xs.length<=maxLen:=by
 have ofH:∀{xs:aQ} {v:bn},dg E w c.K v (.l el xs)->oe w v xs te.ks.length (λ_ _ u x=>Sc u x)/\(∀y∈xs,y.map CV.kd=te.ks)/\xs.length<=maxLen:=by intro xs v hh;obtain⟨h1,h2⟩:=Bc ht hh;exact⟨h1.imp λi y j x u hi hj hr=>pq hr (im hp (h2 y (aR hi)) hj),h2,QI hh⟩
 have ofR:∀{nm:aC} {ex:aY} {xs:aQ} {lo hi:aC} {v:bn},σ (db nm)= .o (.row el ex xs)->xE (c.P nm) lo hi v->oe w v (e8 xs lo hi) te.ks.length (λ_ _ u x=>Sc u x)/\(∀y∈e8 xs lo hi,y.map CV.kd=te.ks)/\(e8 xs lo hi).length<=maxLen:=by
  intro nm ex xs lo hi v hg hv;obtain⟨t2,q1,q2,q3⟩:=yG cj hg hv;obtain rfl:te=t2:=aF (ht.symm.trans q1);refine⟨q3.imp λi y j x u hi hj hr=> ?_,q2,dc (K4 _ _ _) (uH (cj.obj nm _ hg).at_)⟩
  have hl:=im hp (q2 y (aR hi)) hj;split at hr
  ·exact uL hr hl
  ·exact pq hr hl
 cases x with
 |sh e' ys=>obtain⟨rfl,rfl⟩:=bV (aF h);exact ofH hx
 |own n=>
  obtain⟨ob,hg,h⟩:=Rd.bind_some h;have hg:=dy hg;have hx:v=lO (c.P n):=hx;subst hx;cases ob with
  |row e' ex ys=>obtain⟨rfl,rfl⟩:=bV (aF h);have:=ofR hg (wG cj hg);rwa[qO]at this
  |fV e' ys=>obtain⟨rfl,rfl⟩:=bV (aF h);have:=ofH (po cj hg (J9 cj hg));rwa[qO]at this
  |_=>simp at h
 |vw n lo hi=>
  obtain⟨ob,hg,h⟩:=Rd.bind_some h;have hg:=dy hg;cases ob with
  |row e' ex ys=>obtain⟨rfl,rfl⟩:=bV (aF h);exact ofR hg hx
  |fV e' ys=>obtain⟨rfl,rfl⟩:=bV (aF h);exact ofH (po cj hg hx)
  |_=>simp at h
 |mU n i j=>
  obtain⟨ob,hg,h⟩:=Rd.bind_some h;have hg:=dy hg;cases ob with
  |row e' ex ys=>
   cases ex with
   |false=>simp at h
   |true=>
   obtain⟨t1,ht1,h⟩:=Rd.bind_some h;have ht1:=dZ ht1;split at h
   ·rename_i e2 zA;obtain⟨rfl,rfl⟩:=bV (aF h);obtain⟨⟨iV,hx⟩,_⟩:=hx;obtain⟨zs,y,t2,q1,q2,q3,q4,q5,q6,q7,q8⟩:=CA cj hg ht1 zA iV;obtain rfl:te=t2:=aF (ht.symm.trans q3);rw[fD q1 q2];have:=Nc q7 q8;rw[qO,q5]at this;subst hx;exact⟨this,q6,uH q7⟩
   ·simp at h
  |_=>simp at h
 |_=>simp[mv]at h
end
end Go.FG

namespace Go.FG
def gf(E:fS)(w:bJ)(c:e9)(vals:dp bn)(xs:az AV):Prop:=
 vals.size=xs.length/\∀(j:aC) (a:AV),xs[j]? =ah a->∃u:bn,vals[j]? =ah u/\eL E w c a u
theorem qi.cells{E:fS}{w:bJ}{c:e9}{agg:aY}{xs:az AV}{v:bn}(h:qi E w c agg xs v):gf E w c v.cells xs:=by
 unfold qi at h;split at h
 ·rename_i a;rw[F8 h.one];refine⟨rfl,λj a' hj=> ?_⟩
  cases j with
  |zero=>simp at hj;subst hj;exact⟨v,rfl,h⟩
  |succ=>simp at hj
 ·obtain⟨vals,rfl,hs,hv⟩:=h;exact⟨hs,hv⟩
 ·exact h.elim
theorem gf.one{E:fS}{w:bJ}{c:e9}{xs:az AV}{vals:dp bn}(h:gf E w c vals xs):∀u∈vals.toList,u.oneCell'=true:=by
 intro u hu;obtain⟨j,hj⟩:=b7 hu;have jb:j<xs.length:=by rw[<-h.1];have:=(aT.1 hj).1;simpa using this
 obtain⟨u',h1,h2⟩:=h.2 j xs[j] (by simp[jb]);rw[cZ,h1]at hj;cases hj;exact h2.one
theorem vA{α:Type}{xs ys:az α}{j:aC}(h:j+ys.length<=xs.length):(dS xs j ys).length=xs.length:=by unfold dS;simp;omega
theorem py{α:Type}{xs ys:az α}{j:aC}(h:j+ys.length<=xs.length)(k:aC):(dS xs j ys)[k]? =if j<=k/\k<j+ys.length then ys[k-j]? else xs[k]? :=by
 unfold dS;by_cases h1:k<j
 ·rw[bH (by omega),bU,dC (by simp;omega),ea,bB h1]
 ·by_cases h2:k<j+ys.length
  ·rw[bB ⟨by omega,h2⟩,bU,c8 (by simp;omega),dC (by simp;omega)];congr 1;simp;omega
  ·rw[bH (by omega),bU,c8 (by simp;omega),c8 (by simp;omega),dV];congr 1;simp;omega
theorem DF{α:Type}{xs ys:az α}{j:aC}{x:α}(h:x∈dS xs j ys):x∈xs\/x∈ys:=by
 unfold dS at h;simp only[bf]at h;rcases h with (h|h)|h
 ·exact .inl (kU h)
 ·exact .inr h
 ·exact .inl (kT h)
theorem gf.put{E:fS}{w:bJ}{c:e9}{xs ys:az AV}{vals vs:dp bn}(h:gf E w c vals xs)(h':gf E w c vs ys){j:aC}(hl:j+ys.length<=xs.length):gf E w c (er vals j vs.toList) (dS xs j ys):=by
 have hb:j+vs.toList.length<=vals.size:=by rw[h.1,dW,h'.1];exact hl
 refine⟨by rw[fa hb,vA hl];exact h.1,λk a hk=> ?_⟩
 rw[py hl]at hk;rw[gz hb,dW,h'.1];split at hk
 ·rename_i hc;rw[bB hc,cZ];exact h'.2 _ a hk
 ·rename_i hc;rw[bH hc];exact h.2 k a hk
theorem T_(off:aC):∀(l:az bn) (k:aC) (cells:dp bn),off+k+l.length<=cells.size->
  ((l.zipIdx k).foldl (λr p=>r.setIfInBounds (off+p.2) p.1) cells).size=cells.size/\
  ∀q:aC,((l.zipIdx k).foldl (λr p=>r.setIfInBounds (off+p.2) p.1) cells)[q]? =if off+k<=q/\q<off+k+l.length then l[q-(off+k)]? else cells[q]? :=by
 intro l;induction l with
 |nil=>intro k cells _;refine⟨rfl,λq=> ?_⟩;rw[bH (by simp)];rfl
 |cons v rest ih=>
  intro k cells hl;simp only[dh]at hl;obtain⟨h1,h2⟩:=ih (k+1) (cells.setIfInBounds (off+k) v) (by simp;omega);simp only[List.zipIdx_cons,EI];refine⟨by rw[h1];simp,λq=> ?_⟩
  rw[h2 q];by_cases hq:q=off+k
  ·subst hq;rw[bH (by omega),bB ⟨by omega,by simp⟩,oc,bB rfl,bB (by omega)];simp
  ·by_cases hr:off+(k+1)<=q/\q<off+(k+1)+rest.length
   ·rw[bB hr,bB ⟨by omega,by simp;omega⟩];rw[show q-(off+k)=(q-(off+(k+1)))+1 by omega,dO]
   ·rw[bH hr,bH (by simp;omega),oc,bH (λh=>hq h.symm)]
theorem Ge{off:aC}{vs cells:dp bn}(h:off+vs.size<=cells.size):(vs.zipIdx.foldl (λr (p:bn×aC)=>r.setIfInBounds (off+p.2) p.1) cells)=er cells off vs.toList:=by
 rw[<-Array.foldl_toList,Array.toList_zipIdx];obtain⟨h1,h2⟩:=T_ off vs.toList 0 cells (by simpa using h);have hb:off+vs.toList.length<=cells.size:=by simpa using h
 apply Array.ext_getElem?;intro q;rw[h2 q,gz hb];simp
theorem Rr{E:fS}{w:bJ}{c:e9}{k:Ck}(h:(match k with| .o=>ak|_=>ai)=ai):eL E w c (Em k) (iH k):=by cases k<;>first|rfl|exact⟨rfl,bk _⟩|simp at h
theorem DI(k:Ck):bN (Em k)=[]:=by cases k<;>rfl
theorem K6{E:fS}{w:bJ}{c:e9}{ks:az Ck}(h:ML ks=ai):gf E w c (ks.map iH).toArray (ks.map Em):=by
 refine⟨by simp,λj a hj=> ?_⟩
 rw[bI]at hj;cases hk:ks[j]? with
 |none=>rw[hk]at hj;cases hj
 |some k=>rw[hk]at hj;cases hj;exact⟨iH k,by simp[hk],Rr (bA.1 h k (aR hk))⟩
section
variable {P:c6} {E:fS} {σ:St} {a:Act} {w:bJ} {c:e9} {o:fB} {nm:aC} {e:sV}
theorem Q6(hE:eH P E)(dI:fC E σ a w c){t:aC}{pl:az (aC×aC)}{size:aC}(sR:∀f o n,E.fo t f=ah (o,n)->pl[f]? =ah (o,n)/\o+n<=size):∀(ps:az (aC×dx)) (l:az (aC×az AV)),(ID E t ps).val σ=ah l->
  ∀(vals:dp bn) (xs:az AV),gf E w c vals xs->xs.length=size->(∀a∈xs,jf σ a)->
  ∃i9,pC (λi=>pl[i]?) vals (ps.map λ(i,x)=>(i,a.eval x))=ah i9/\gf E w c i9 (OA xs l)/\(∀a∈OA xs l,jf σ a):=by
 intro ps;induction ps with
 |nil=>intro l h vals xs hv _ hk;obtain rfl:=aF h;exact⟨vals,rfl,hv,hk⟩
 |cons p r ih=>
  obtain⟨f,x⟩:=p;intro l h vals xs hv fZ hk;obtain⟨v,h1,h⟩:=Rd.bind_some h;obtain⟨QK,hkv⟩:=mi dI h1;cases v with
  |v g ys=>
   replace h:(match E.fo t f with|some (o,n)=>bif bD ys.length n then(ID E t r).bind λl=> .ret ((o,ys)::l)else .fail|none=> .fail:Rd (az (aC×az AV))).val σ=ah l:=h;cases hf:E.fo t f with
   |none=>rw[hf]at h;simp at h
   |some q=>
    obtain⟨off,n⟩:=q;rw[hf]at h;obtain⟨hn,h⟩:=cR h;have hn:=aU hn;obtain⟨l',hl',h⟩:=Rd.bind_some h;obtain rfl:=aF h;obtain⟨QL,hp2⟩:=sR f off n hf;have hc:=qi.cells QK;have mA:off+ys.length<=xs.length:=by omega
    obtain⟨i9,q1,q2,q3⟩:=ih l' hl' (er vals off (a.eval x).cells.toList) (dS xs off ys) (hv.put hc mA) (by rw[vA mA];exact fZ)
     (λb hb=>by
      rcases DF hb with hb|hb
      ·exact hk b hb
      ·exact λn hn=>hkv n (bL.2 ⟨b,hb,hn⟩))
    refine⟨i9, ?_,q2,q3⟩
    simp only[eC,pC,QL];have c1:(a.eval x).cells.size=n:=by rw[hc.1,hn]
    have c2:¬(off+(a.eval x).cells.size>vals.size):=by rw[hc.1,hv.1];omega
    rw[bH (by simp[c1];rw[c1]at c2;omega)];have:=Ge (off:=off) (vs:=(a.eval x).cells) (cells:=vals) (by omega);rw[<-q1];exact lH (λz=>pC (λi=>pl[i]?) z _) this
  |j_=>simp at h
  |un=>simp at h
theorem VM(hE:eH P E)(cj:Ok E σ w c)(dI:fC E σ a w c)(hd:∀d,o.dst=ah d->d<a.tmps.size){t:aC}{ps:dp (aC×dx)}(ho:o.op= .build t ps)(h:(l_ E nm o).val σ=ah e):gV P E σ a w c o e.ws:=by simp only[l_,ho]at h;obtain⟨ti,h1,h⟩:=Rd.bind_some h;obtain⟨hb,h⟩:=cR h;obtain⟨l,h2,h⟩:=Rd.bind_some h;have ht:=dZ h1;simp only[aK]at hb;obtain⟨AL,uw⟩:=hb;obtain⟨inf,hi,fZ,_,_,hz⟩:=hE.info t ti ht;obtain⟨z,Lb,Fj,_⟩:=hz AL;obtain⟨d,hd',ha,_⟩:=hE.desc t ti ht;obtain⟨fs,rfl,Mo⟩:=ha uw;obtain⟨pl,QL,hp2⟩:=hE.pl t ti ht uw fs hd';obtain⟨vals,q1,q2,q3⟩:=Q6 (size:=ti.ks.length) hE dI (λf o n hf=>⟨hp2 f o n hf,(Mo f o n hf).choose_spec.2.2.2.2⟩) ps.toList l h2 _ _ (K6 (w:=w) (c:=c) (E:=E) AL) (by simp) (λb hb=>by obtain⟨k,_,rfl⟩:=cw.1 hb;exact uA (DI k));refine gd cj dI hd h (v:= .agg vals) ⟨vals,rfl,q2.1,q2.2⟩ (λn hn=>by obtain⟨x,hx,hn⟩:=bL.1 hn;exact q3 x hx n hn) ?_;unfold execOp;rw[ho];refine iT (run_build w t _ vals ?_);simp only[Program.built,hi,hd',Lb,QL,Fj,h_,BC];exact q1
theorem VO(hE:eH P E)(cj:Ok E σ w c)(dI:fC E σ a w c)(hd:∀d,o.dst=ah d->d<a.tmps.size){t f:aC}{x:dx}(ho:o.op= .field t x f)(h:(l_ E nm o).val σ=ah e):gV P E σ a w c o e.ws:=by
 simp only[l_,ho]at h;obtain⟨v,h1,h⟩:=Rd.bind_some h;obtain⟨hv,hk⟩:=mi dI h1;cases v with
 |v g xs=>
  cases g with
  |true=>
   cases hf:E.fo t f with
   |none=>rw[hf]at h;simp at h
   |some r=>
    obtain⟨j,n⟩:=r;rw[hf]at h;obtain⟨hb,h⟩:=cR h;rw[aK]at hb;cases hx:xs.drop j with
    |nil=>rw[hx]at h;simp at h
    |cons y ys=>
     rw[hx]at h;have hj:xs[j]? =ah y:=by have:=dV (xs:=xs) (i:=j) (j:=0);rw[hx]at this;simpa using this.symm
     obtain⟨vals,q1,q2,q3⟩:∃vals:dp bn,a.eval x= .agg vals/\vals.size=xs.length/\∀(j:aC) (b:AV),xs[j]? =ah b->∃u:bn,vals[j]? =ah u/\eL E w c b u:=hv;obtain⟨u,hu,XI⟩:=q3 j y hj;obtain⟨ti,ht,uw⟩:=hE.fo t f j n hf;obtain⟨d,hd',ha,_⟩:=hE.desc t ti ht;obtain⟨fs,rfl,Mo⟩:=ha uw;obtain⟨fd,g1,g2,_⟩:=Mo f j n hf;have hAg:=hE.fl t f hb.1 fs fd hd' g1 w;refine gd cj dI hd h (s:= .v ak [y]) (v:=u) XI (λm hm=>hk m (bL.2 ⟨y,aR hj,by simpa [cM]using hm⟩)) ?_;unfold execOp;rw[ho];refine iT ?_;simp only[Instr.field,cq,run_underlying hd',bG,g1,q1,asAgg,cU,part,hAg,dt,if_false,g2,hu]
  |false=>simp at h
 |j_=>simp at h
 |un=>simp at h
theorem VK(hE:eH P E)(cj:Ok E σ w c)(dI:fC E σ a w c)(hd:∀d,o.dst=ah d->d<a.tmps.size){t:aC}(ho:o.op= .alloc t)(h:(l_ E nm o).val σ=ah e):gV P E σ a w c o e.ws:=by
 simp only[l_,ho]at h;obtain⟨ti,h1,h⟩:=Rd.bind_some h;obtain⟨hb,h⟩:=cR h;obtain⟨u,h2,h⟩:=Rd.bind_some h;obtain⟨hf,jb⟩:=kF h2;obtain rfl:=aF h;have hr:=Re (P:=P) w hE (dZ h1) hb;refine Dv cj dI hd (p:=⟨ak,w.heap.size,0,0,0,0⟩) (g:=λ_ _=>⟨ak,0,0,0,0,0⟩) hf jb (λc' hP _ _ _=> ?_) (λc' hP _ b hb=> ?_) (λxs hx b hb=> ?_) (λc' hP _=> ?_) (λn hn=> .inl (by simpa [cM,bN]using hn)) (λb hb=>heap_alloc_old w _ b hb) (by simp) rfl rfl rfl (v:= .pointer (ah (ad w.heap.size 0))) (w':=w.alloc (.cells (ti.ks.map iH).toArray t)) ?_
 ·obtain⟨z1,z2⟩:=K6 (E:=E) (w:=w.alloc (.cells (ti.ks.map iH).toArray t)) (c:=c') hb;exact⟨_,by rw[hP];exact nV.alloc w _ t,z1,z2⟩
 ·have:b=(c'.P nm).blk:=hb;rw[this,hP];exact cJ _
 ·cases hx;obtain⟨k,_,rfl⟩:=cw.1 hb;exact uA (DI k)
 ·show _=_;rw[hP]
 ·unfold execOp;rw[ho];exact iT hr
theorem ain(cj:Ok E σ w c)(dI:fC E σ a w c)(hd:∀d,o.dst=ah d->d<a.tmps.size){t:aC}{x:dx}(ho:o.op= .box t x)(h:(l_ E nm o).val σ=ah e):gV P E σ a w c o e.ws:=by
 simp only[l_,ho]at h;obtain⟨v,h1,h⟩:=Rd.bind_some h;obtain⟨hv,hk⟩:=mi dI h1;cases v with
 |v g xs=>
  obtain⟨u,h2,h⟩:=Rd.bind_some h;obtain⟨hf,jb⟩:=kF h2;obtain rfl:=aF h;have hr:=Wk (P:=P) w t (a.eval x);have kx:∀b∈xs,jf σ b:=λb hb n hn=>hk n (bL.2 ⟨b,hb,hn⟩);have pD:=qi.cells hv;refine Dv cj dI hd (p:=⟨ak,w.heap.size,0,0,0,0⟩) (g:=λ_ _=>⟨ak,0,0,0,0,0⟩) hf jb (λc' hP _ hK hA=> ?_) (λc' hP _ b hb=> ?_) (λys hx b hb=> ?_) (λc' hP _=> ?_) (λn hn=> .inl (by simpa [cM,bN]using hn)) (λb hb=>heap_alloc_old w _ b hb) (by simp) rfl rfl rfl (v:= .pointer (ah (ad w.heap.size 0))) (w':=w.alloc (.cells (a.eval x).cells t)) ?_
  ·refine⟨_,by rw[hP];exact nV.alloc w _ t,pD.1,λj y hj=> ?_⟩
   obtain⟨u,hu,hy⟩:=pD.2 j y hj;exact⟨u,hu,hy.frame (λb hb=>heap_alloc_old w _ b (cj.lt b hb)) hK (λn hn=>hA n (.inl (kx y (aR hj) n hn)))⟩
  ·have:b=(c'.P nm).blk:=hb;rw[this,hP];exact cJ _
  ·cases hx;exact kx b hb
  ·show _=_;rw[hP]
  ·unfold execOp;rw[ho];exact iT hr
 |j_=>simp at h
 |un=>simp at h
end
end Go.FG

namespace Go.FG
def MJ(E:fS)(ks:az Ck)(_i j:aC):Pl:=
 ⟨ai,0,0,0,0,match ks[j]? with|some (.l e)=>(match E.ty e with|some t=>t.ks.length|none=>0)|_=>0⟩
theorem wz{p:Pl}{G:aC->aC->Pl}{xs:aQ}(h:∀i j,(G i j).nil=ai):G2 p G xs:=
 ⟨λi j _ hn=>(by rw[h]at hn;cases hn),λi j i' j' _ _ hn=>(by rw[h]at hn;cases hn)⟩
theorem P3{E:fS}{w:bJ}{ks:az Ck}(hf:flat E ks=ai)(hn:ML ks=ai){i j:aC}{k:Ck}(hk:ks[j]? =ah k):XC E w (MJ E ks) i j (iH k) (se k):=by
 have h1:=bA.1 hf k (aR hk);have h2:=bA.1 hn k (aR hk);cases k with
 |l e=>
  replace h1:(match E.ty e with|some ti=>plain ti.ks|none=>ak)=true:=h1;cases ht:E.ty e with
  |none=>rw[ht]at h1;cases h1
  |some t=>
   rw[ht]at h1;refine⟨rfl,t,ht,h1, ?_,λy hy=>(by cases hy),⟨rfl,λ_=>⟨rfl,rfl⟩,λh=>by cases h⟩⟩
   show(match ks[j]? with|some (.l e)=>(match E.ty e with|some t=>t.ks.length|none=>0)|_=>0)=_;rw[hk];simp only[ht]
 |o=>cases h2
 |s=>exact⟨rfl,bk _⟩
 |_=>exact⟨rfl,trivial⟩
theorem Np{E:fS}{w:bJ}{K:aC->Prop}{k:Ck}(h2:(match k with| .o=>ak|_=>ai)=ai):dg E w K (iH k) (se k):=by
 cases k with
 |o=>cases h2
 |i k=>exact .i _ _
 |b=>exact .b _
 |s=>exact .s _ (bk _)
 |l e=>exact .nl _ _ _
theorem abn{k:Ck}(h2:(match k with| .o=>ak|_=>ai)=ai):(se k).kd=k:=by cases k<;>first|rfl|cases h2
theorem yW{ks:az Ck}(hn:ML ks=ai)(n:aC):∀y∈aN ks n,y.map CV.kd=ks:=by
 intro y hy;rw[(List.mem_replicate.1 hy).2,kl];have:∀k∈ks,(CV.kd∘se) k=k:=λk hk=>abn (bA.1 hn k hk);conv=>rhs;rw[<-List.map_id ks]
 exact wU this
theorem uM{ks:az Ck}{n i j:aC}{y:az CV}{x:CV}(hi:(aN ks n)[i]? =ah y)(hj:y[j]? =ah x):i<n/\∃k,ks[j]? =ah k/\x=se k:=by
 unfold aN at hi;have jb:=(aT.1 hi).1;rw[List.length_replicate]at jb;rw[List.getElem?_replicate,bB jb]at hi;cases hi;rw[bI]at hj;cases hk:ks[j]? with
 |none=>rw[hk]at hj;cases hj
 |some k=>rw[hk]at hj;cases hj;exact⟨jb,k,rfl,rfl⟩
theorem lP{ks:az Ck}{n i j:aC}{k:Ck}(hi:i<n)(hk:ks[j]? =ah k):(madeCells (ks.map iH).toArray (n*ks.length))[i*ks.length+j]? =ah (iH k):=by
 have hj:=(aT.1 hk).1;have jb:i*ks.length+j<n*ks.length:=by have:(i+1)*ks.length<=n*ks.length:=b_ _ hi;rw[dn]at this;omega
 have hm:(i*ks.length+j)%ks.length=j:=by rw[FF,Nat.mul_add_mod];exact Nat.mod_eq_of_lt hj
 unfold madeCells;rw[P5,Array.getElem?_range,bB jb,jc];congr 1;simp only[Xw,bR,hm];rw[getElem!_def,h_,bI,hk];rfl
theorem AP{P:c6}{E:fS}{σ:St}(hE:eH P E){t:aC}{k:nh}(h:(pX E t).val σ=ah (.i k)):P.underlying t=ah (.int k):=by obtain⟨ti,h1,h2,h3⟩:=rN h;obtain⟨d,hd,_,hn⟩:=hE.desc t ti h1;rcases hn h2 with ⟨k,h,rfl⟩|⟨h,_⟩|⟨h,_⟩|⟨e',h,_⟩|⟨h,_⟩<;>rw[h3]at h<;>simp_all
theorem On{P:c6}{E:fS}(hE:eH P E){e:aC}{te:TI}(ht:E.ty e=ah te)(h:(u8s te.ks&& !te.agg)=ai):te.ks=[.i .u8]/\P.underlying e=ah (.int .u8):=by
 simp only[aK,du]at h;have hk:te.ks=[.i .u8]:=by
  have:=h.1;unfold u8s at this;split at this
  ·assumption
  ·cases this
 obtain⟨d,hd,_,hn⟩:=hE.desc e te ht;refine⟨hk, ?_⟩
 rcases hn h.2 with ⟨k,h,rfl⟩|⟨h,_⟩|⟨h,_⟩|⟨e',h,_⟩|⟨h,_⟩<;>rw[hk]at h<;>simp_all
section
variable {P:c6} {E:fS} {σ:St} {a:Act} {w:bJ} {c:e9} {o:fB} {nm:aC} {e:sV}
theorem Rf(hE:eH P E){src dst el:aC}{te:TI}(hs:P.underlying src=ah (.slice el))(hd:P.underlying dst=ah .string)(he:P.underlying el=ah (.int .u8))(hk:te.ks=[.i .u8]){v:bn}{xs:aQ}
  (h:oe w v xs te.ks.length (λ_ _ u x=>Sc u x)) (mE:∀y∈xs,y.map CV.kd=te.ks):(convert src dst v).run P w= .ok (.string (bytesOf xs)) w:=by
 obtain⟨A,cp,rfl,h2⟩:=h;by_cases hx:xs=[]
 ·subst hx;rw[jN];have e0:bytesOf []=I7:=rfl;rw[e0];cases A with
  |none=>exact run_convert_bytes_nil w src el hs he 0 cp dst hd
  |some ad'=>rw[run_convert_bytes_string w src dst el _ 0 cp hs he hd];exact run_bytesToString w ad' 0 cp [] rfl
 ·obtain⟨b,oo,rfl,h3⟩:=h2 hx;have:=run_convert_bytes_arg w src el hs he b oo xs.length cp (xs.map λy=>bF (y.getD 0 (.b ak))) (by simp) (λi hi=>by
   have hy:=mE xs[i] (bu hi);rw[hk]at hy;cases hq:xs[i]with
   |nil=>rw[hq]at hy;cases hy
   |cons x r=>
    rw[hq]at hy;simp only[eC,List.cons.injEq,List.map_eq_nil_iff]at hy;obtain⟨hx1,rfl⟩:=hy;obtain⟨u,hu,hr⟩:=h3 i xs[i] 0 x (by simp[hi]) (by rw[hq];rfl);rw[hk]at hu;simp only[dh,jN,bT,Nat.mul_one,zP]at hu;rw[hu,hr.1];cases x with
    |i k n=>cases hx1;simp[Rj,gg,hi,hq,bF]
    |_=>cases hx1) dst hd
  rw[this];unfold strOfNums bytesOf;rw[kl];rfl
theorem ie(xs:aQ):(bytesOf xs).size=xs.length:=by unfold bytesOf;simp[b8]
theorem l8(s:aq):(qK s).length=s.size:=by unfold qK;simp
theorem IK{s:aq}{i j:aC}{y:az CV}{x:CV}(hi:(qK s)[i]? =ah y)(hj:y[j]? =ah x):j=0/\∃b,s.data[i]? =ah b/\x= .i .u8 (b.toNat:aw):=by
 unfold qK at hi;rw[bI,cZ]at hi;cases hb:s.data[i]? with
 |none=>rw[hb]at hi;cases hi
 |some b=>
  rw[hb]at hi;cases hi;cases j with
  |zero=>cases hj;exact⟨rfl,b,rfl,rfl⟩
  |succ j=>simp at hj
theorem KM(s:aq):∀y∈qK s,y.map CV.kd=[.i .u8]:=by intro y hy;obtain⟨b,_,rfl⟩:=cw.1 hy;rfl
theorem MO(hE:eH P E)(cj:Ok E σ w c)(dI:fC E σ a w c)(hd:∀d,o.dst=ah d->d<a.tmps.size){src dst:aC}{x:dx}(ho:o.op= .convert src dst x)(h:(l_ E nm o).val σ=ah e)(hc:e.cond=ai):gV P E σ a w c o e.ws:=by
 simp only[l_,ho]at h;obtain⟨ks,h1,h⟩:=Rd.bind_some h;obtain⟨kd,h2,h⟩:=Rd.bind_some h;obtain⟨v,h3,h⟩:=Rd.bind_some h;obtain⟨ev,kv⟩:=iW dI h3;have exec:∀{u r:bn} {w':bJ},a.eval x=u->(convert src dst u).run P w= .ok r w'->(execOp a.eval o).run P w= .ok (.value r) w':=by intro u r w' hu hr;unfold execOp;rw[ho];exact iT (by rw[hu];exact hr)
 cases kd with
 |i k=>
  cases ks with
  |i k0=>
   cases v with
   |i k1 n=>refine gd cj dI hd h (v:= .int k (k.wrap n)) rfl (λn hn=>by simp[cM,bN]at hn) (exec ev ?_);simp[convert,run_underlying (AP hE h1),run_underlying (AP hE h2),Conv.intToInt]
   |_=>simp at h
  |_=>simp at h
 |s=>
  have Dw:=k_ hE h2;cases ks with
  |s=>
   cases v with
   |s s=>refine gd cj dI hd h (v:= .string s) ⟨rfl,ev.2⟩ (λn hn=>by simp[cM,bN]at hn) (exec ev.1 ?_);simp[convert,run_underlying (k_ hE h1),run_underlying Dw]
   |_=>simp at h
  |l el=>
   have Fg:=kI hE h1;have gen:(∀e,v=e->((mv E e).bind λ(e,xs)=>(sO E e).bind λte=>bif bD e el&&u8s te.ks&& !te.agg then Ng o (decide (xs.length<=4611686018427387904)) (.s (bytesOf xs))else .fail).val σ=ah ‹sV›)->gV P E σ a w c o (‹sV›).ws:=by
    intro h;obtain⟨⟨e1,xs⟩,q1,h⟩:=Rd.bind_some (h v rfl);obtain⟨te,q2,h⟩:=Rd.bind_some h;have q2:=dZ q2;obtain⟨q3,h9⟩:=cR h;rw[nK,aK]at q3;have:=aU q3.1;subst this;obtain⟨q4,q5⟩:=On hE q2 q3.2;have hp:plain te.ks=true:=by rw[q4];rfl
    obtain⟨r1,r2,r3⟩:=Bz cj ev q1 q2 hp;exact GJ cj dI hd h9 hc (v:= .string (bytesOf xs)) (λhb=>⟨rfl,by unfold CD;rw[ie];exact cF hb⟩) (uA rfl) (λ_=>exec rfl (Rf hE Fg Dw q5 q4 r1 r2))
   cases v with
   |nl=>obtain⟨te,q1,h⟩:=Rd.bind_some h;obtain⟨q3,h⟩:=cR h;obtain⟨q4,q5⟩:=On hE (dZ q1) q3;exact gd cj dI hd h (v:= .string I7) ⟨rfl,bk _⟩ (λn hn=>by simp[cM,bN]at hn) (exec ev (run_convert_bytes_nil w src el Fg q5 0 0 dst Dw))
   |_=>exact gen (λ_ hv=>by cases hv;exact h)
  |_=>simp at h
 |_=>simp at h
theorem IB(hE:eH P E)(cj:Ok E σ w c)(dI:fC E σ a w c)(hd:∀d,o.dst=ah d->d<a.tmps.size){t:aC}{x y:dx}(ho:o.op= .makeSlice t x y)(h:(l_ E nm o).val σ=ah e)(hc:e.cond=ai):gV P E σ a w c o e.ws:=by
 simp only[l_,ho]at h;obtain⟨⟨k1,n⟩,h1,h⟩:=Rd.bind_some h;obtain⟨⟨k2,m⟩,h2,h⟩:=Rd.bind_some h;obtain⟨ti,h3,h⟩:=Rd.bind_some h;have ex:=pY dI h1;have ey:=pY dI h2;have h3:=dZ h3;split at h
 ·rename_i el uw B6;obtain⟨te,h4,h⟩:=Rd.bind_some h;have h4:=dZ h4;obtain⟨h5,h⟩:=cR h;obtain⟨u,h6,h⟩:=Rd.bind_some h;obtain⟨hf,jb⟩:=kF h6;obtain rfl:=aF h;generalize (bif plain te.ks then nm else nm+999)=nm at hf jb hc⊢;simp only[aK,bj,cC]at hc h5;obtain⟨⟨c0,rfl⟩,c1,c2⟩:=hc;obtain⟨AL,QE⟩:=h5;have hu:=pd hE h3 uw B6;obtain⟨inf,hi,fZ,hby,k8,hz⟩:=hE.info el te h4;obtain⟨z,Lb,Fj,_⟩:=hz AL;have hr:=run_make (P:=P) w t el inf z hu hi Lb k1 k2 n n c0 (Int.le_refl _) (by
   have e1:((n.toNat*te.bytes:aC):aw)<=140737488355328:=(by generalize n.toNat*te.bytes=q at c1⊢;omega)
   rw[hby,Int.mul_comm];rw[X_,Int.toNat_of_nonneg c0]at e1;omega) (by omega)
  rw[Fj,fZ]at hr;refine Dv cj dI hd (p:=⟨ak,w.heap.size,0,n.toNat,n.toNat,te.ks.length⟩) (g:=MJ E te.ks) hf jb (λc' hP hG _ _=> ?_) (λc' hP hG b hb=> ?_) (λxs hx b hb=>by cases hx) (λc' hP _=> ?_) (λn hn=> .inl (by simpa [cM,bN]using hn)) (λb hb=>heap_alloc_old w _ b hb) (by simp) rfl rfl rfl (v:= .slice (ah ⟨w.heap.size,0,aj⟩) n.toNat n.toNat) (w':=w.alloc (.cells (madeCells (te.ks.map iH).toArray (n.toNat*te.ks.length)) el)) ?_
  ·refine⟨⟨te,h4,by rw[hP],yW AL _⟩, ?_,λ_=>wz (λi j=>(by rw[hG];try rfl))⟩
   rw[hP,hG];refine⟨by simp[aN],λhn=>(by cases hn),λ_=>⟨_,nV.alloc w _ el,cJ _,(by show n.toNat<=2^63-1;omega),by rw[size_madeCells];simp,λi y j x hi hj=> ?_⟩⟩
   obtain⟨fP,k,hk,rfl⟩:=uM hi hj;refine⟨iH k, ?_,by rw[bB rfl];exact P3 QE AL hk⟩
   rw[bT];exact lP fP hk
  ·rcases hb with ⟨_,rfl⟩|⟨_,i,j,_,hn,_⟩
   ·rw[hP];exact cJ _
   ·rw[hG]at hn;cases hn
  ·show _=lO _;rw[hP];rfl
  ·unfold execOp;rw[ho];exact iT (by rw[ex,ey];exact hr)
 ·simp at h
end
end Go.FG

namespace Go.FG
theorem fG{xs:aQ}{i j:aC}{cs:az CV}:(cK xs i j cs).length=xs.length:=by unfold cK;simp
theorem yM{xs:aQ}{i j:aC}{cs y:az CV}(hy:xs[i]? =ah y)(i':aC):(cK xs i j cs)[i']? =if i'=i then ah (dS y j cs)else xs[i']? :=by
 have jb:=(aT.1 hy).1;have hd:xs.getD i []=y:=by rw[d_,hy];rfl
 unfold cK;rw[Rt,hd];by_cases h:i'=i
 ·subst h;simp[jb]
 ·rw[bH h,bH (λe=>h e.symm)]
theorem nV.uniq{w:bJ}{b:aC}{v1 v2:dp bn}(h1:nV w b v1)(h2:nV w b v2):v1=v2:=by obtain⟨t,fr,h1,_⟩:=h1;obtain⟨t',fr',h2,_⟩:=h2;rw[h1]at h2;cases h2;rfl
theorem jg.pos{w:bJ}{p:Pl}{xs:aQ}{R:aC->aC->bn->CV->Prop}(h:jg w p xs R){i:aC}(hi:i<p.n):p.nil=ak/\∃vals,nV w p.blk vals:=by
 have ju:p.nil=false:=by
  cases hn:p.nil with
  |false=>rfl
  |true=>have:=(h.nil hn).1;subst this;have:=h.n;simp at this;omega
 obtain⟨vals,hb,_⟩:=h.mem ju;exact⟨ju,vals,hb⟩
theorem jg.aon{w:bJ}{p:Pl}{xs:aQ}{R R':aC->aC->bn->CV->Prop}(h:jg w p xs R){vals:dp bn}(hbv:nV w p.blk vals)(hs:∀y∈xs,y.length=p.sz){i j:aC}{cs:az CV}{vs:az bn}(hi:i<p.n)(hj:j+cs.length<=p.sz)(hl:vs.length=cs.length)
  (AK:∀(q:aC) (x:CV),cs[q]? =ah x->∃u:bn,vs[q]? =ah u/\R' i (j+q) u x)
  (hold:∀(i1:aC) (y:az CV) (j1:aC) (x:CV) (u:bn),xs[i1]? =ah y->y[j1]? =ah x->(i1≠i\/¬(j<=j1/\j1<j+cs.length))->R i1 j1 u x->R' i1 j1 u x):
  p.off+i*p.sz+j+vs.length<=vals.size/\jg (w.setRow p.blk (er vals (p.off+i*p.sz+j) vs)) p (cK xs i j cs) R':=by
 have ju:p.nil=false:=by
  cases hn:p.nil with
  |false=>rfl
  |true=>have:=(h.nil hn).1;subst this;have:=h.n;simp at this;omega
 obtain⟨i9,hb,Ul,YM,mA,hc⟩:=h.mem ju;obtain rfl:=hbv.uniq hb;have lZ:i<xs.length:=by rw[<-h.n];exact hi
 have hy:xs[i]? =ah xs[i]:=by simp[lZ]
 have Km:=hs xs[i] (bu lZ);have h1:(i+1)*p.sz<=p.cap*p.sz:=b_ _ (by omega);rw[dn]at h1;have vp:p.off+i*p.sz+j+vs.length<=vals.size:=by omega
 refine⟨vp,⟨by rw[fG];exact h.n,λhn=>(by rw[ju]at hn;cases hn),λ_=> ?_⟩⟩
 refine⟨_,hb.setRow (fa vp),Ul,YM,by rw[fa vp];exact mA,λi' y j' x iV QG=> ?_⟩
 rw[yM hy]at iV;rw[gz vp];by_cases Kd:i'=i
 ·subst Kd;rw[bB rfl]at iV;cases iV;rw[py (by omega)]at QG;by_cases hq:j<=j'/\j'<j+cs.length
  ·rw[bB hq]at QG;rw[bB (by omega)];obtain⟨u,hu,hr⟩:=AK (j'-j) x QG;refine⟨u, ?_, ?_⟩
   ·rw[<-hu];congr 1;omega
   ·rwa[show j+(j'-j)=j' by omega]at hr
  ·rw[bH hq]at QG;obtain⟨u,hu,hr⟩:=hc _ _ _ _ hy QG;exact⟨u,by rw[bH (by omega)];exact hu,hold _ _ _ _ _ hy QG (.inr hq) hr⟩
 ·rw[bH Kd]at iV;obtain⟨u,hu,hr⟩:=hc _ _ _ _ iV QG;refine⟨u, ?_,hold _ _ _ _ _ iV QG (.inl Kd) hr⟩
  have hj2:j'<p.sz:=by rw[<-hs y (aR iV)];exact(aT.1 QG).1
  rw[bH ?_];exact hu;rcases Rv Kd with jb|hgt
  ·have:(i'+1)*p.sz<=i*p.sz:=b_ _ jb;rw[dn]at this;omega
  ·have:(i+1)*p.sz<=i'*p.sz:=b_ _ hgt;rw[dn]at this;omega
theorem jg.put{w:bJ}{p:Pl}{xs:aQ}{R R':aC->aC->bn->CV->Prop}(h:jg w p xs R){vals:dp bn}(hbv:nV w p.blk vals)(hs:∀y∈xs,y.length=p.sz){i j:aC}{cs:az CV}{vs:az bn}(hi:i<p.n)(hj:j+cs.length<=p.sz)(hl:vs.length=cs.length)
  (AK:∀(q:aC) (x:CV),cs[q]? =ah x->∃u:bn,vs[q]? =ah u/\R' i (j+q) u x)
  (hold:∀(i:aC) (y:az CV) (j:aC) (x:CV) (u:bn),xs[i]? =ah y->y[j]? =ah x->R i j u x->R' i j u x):
  p.off+i*p.sz+j+vs.length<=vals.size/\jg (w.setRow p.blk (er vals (p.off+i*p.sz+j) vs)) p (cK xs i j cs) R':=
 h.aon hbv hs hi hj hl AK (λi1 y j1 x u h1 h2 _ hr=>hold i1 y j1 x u h1 h2 hr)
theorem k9{xs:aQ}{ks:az Ck}(h:∀y∈xs,y.map CV.kd=ks)(i j:aC):gp xs i j↔i<xs.length/\∃e,ks[j]? =ah (.l e):=by
 constructor
 ·rintro ⟨y,x,hy,hx,hl⟩;refine⟨(aT.1 hy).1, ?_⟩
  cases x with
  |l e ys=>exact⟨e,by rw[<-h y (aR hy),bI,hx];rfl⟩
  |i=>simp[uz]at hl
  |b=>simp[uz]at hl
  |s=>simp[uz]at hl
 ·rintro ⟨hi,e,hk⟩;have hy:xs[i]? =ah xs[i]:=by simp[hi]
  have h1:=h xs[i] (bu hi);rw[<-h1,bI]at hk;cases hx:xs[i][j]? with
  |none=>rw[hx]at hk;cases hk
  |some x=>
   rw[hx]at hk;cases x with
   |l e2 ys=>exact⟨_,_,hy,hx,rfl⟩
   |i=>cases hk
   |b=>cases hk
   |s=>cases hk
theorem QO{y cs:az CV}{ks:az Ck}{j:aC}(hy:y.map CV.kd=ks)(hc:cs.map CV.kd=(ks.drop j).take cs.length)(hj:j+cs.length<=ks.length):(dS y j cs).map CV.kd=ks:=by
 have hl:y.length=ks.length:=by rw[<-hy];simp
 apply Xv;intro q;rw[bI,py (by omega)];split
 ·rename_i h;have:(cs.map CV.kd)[q-j]? =((ks.drop j).take cs.length)[q-j]? :=by rw[hc]
  rw[bI]at this;rw[this,ea,bB (by omega),dV];congr 1;omega
 ·rw[<-hy,bI]
theorem yO{xs:aQ}{ks:az Ck}{i j:aC}{cs:az CV}(h:∀y∈xs,y.map CV.kd=ks)(hc:cs.map CV.kd=(ks.drop j).take cs.length)(hj:j+cs.length<=ks.length)(hi:i<xs.length):∀y∈cK xs i j cs,y.map CV.kd=ks:=by
 intro y hy;obtain⟨q,hq⟩:=b7 hy;rw[yM (y:=xs[i]) (by simp[hi])]at hq;split at hq
 ·cases hq;exact QO (h _ (bu hi)) hc hj
 ·exact h y (aR hq)
section
variable {P:c6} {E:fS} {σ:St} {a:Act} {w:bJ} {c:e9} {o:fB} {nm:aC} {e:sV}
theorem AD{ex:aY}{k:Ck}{x:AV}{cv:CV}{ws:az (aC×eR)}{u:bn}(hp:plain [k]=ai)(h:(JW ex k x).val σ=ah (cv,ws))(hx:eL E w c x u):cv.kd=k/\Sc u cv/\uz cv=ak/\ws=[]:=by
 cases k with
 |i k=>
  cases x with
  |i k' n=>
   replace h:(if k=k' then Rd.ret (CV.i k n,[])else .fail:Rd (CV×az (aC×eR))).val σ=ah (cv,ws):=h;split at h
   ·rename_i hk;subst hk;obtain⟨rfl,rfl⟩:=bV (aF h);exact⟨rfl,⟨hx,trivial⟩,rfl,rfl⟩
   ·simp at h
  |_=>simp[JW]at h
 |b=>
  cases x with
  |b n=>obtain⟨rfl,rfl⟩:=bV (aF h);exact⟨rfl,⟨hx,trivial⟩,rfl,rfl⟩
  |_=>simp[JW]at h
 |s=>
  cases x with
  |s n=>obtain⟨rfl,rfl⟩:=bV (aF h);exact⟨rfl,hx,rfl,rfl⟩
  |_=>simp[JW]at h
 |l=>simp[plain]at hp
 |o=>simp[plain]at hp
theorem Dj{ex:aY}:∀{ks:az Ck} {xs:az AV} {cs:az CV} {ws:az (aC×eR)} (hp:plain ks=ai) (h:(AE ex ks xs).val σ=ah (cs,ws)),cs.map CV.kd=ks/\cs.length=xs.length/\ws=[]/\
  ∀(vals:dp bn),gf E w c vals xs->∀(q:aC) (x:CV),cs[q]? =ah x->vals[q]? =ah (Rj x)/\uz x=ak/\okC x:=by
 intro ks;induction ks with
 |nil=>
  intro xs cs ws hp h;cases xs with
  |nil=>obtain⟨rfl,rfl⟩:=bV (aF h);exact⟨rfl,rfl,rfl,λ_ _ q x hq=>by simp at hq⟩
  |cons=>simp[AE]at h
 |cons k ks ih=>
  intro xs cs ws hp h;cases xs with
  |nil=>simp[AE]at h
  |cons x xs=>
   obtain⟨⟨cv,w1⟩,h1,h⟩:=Rd.bind_some h;obtain⟨⟨cr,w2⟩,h2,h⟩:=Rd.bind_some h;obtain⟨rfl,rfl⟩:=bV (aF h);simp only[plain,pQ,aK]at hp;have QL:plain [k]=true:=by simp[plain,hp.1]
   have hp2:plain ks=true:=hp.2;obtain⟨i1,i2,i3,i4⟩:=ih hp2 h2;have e1:=λu (hu:eL E w c x u)=>AD QL h1 hu;have kd1:cv.kd=k/\w1=[]:=by
    cases k<;>cases x<;>simp[JW,plain]at h1 QL<;>first
     |(obtain⟨rfl,rfl⟩:=h1;exact⟨rfl,rfl⟩)
     |(split at h1<;>simp at h1;rename_i hk;subst hk;obtain⟨rfl,rfl⟩:=h1;exact⟨rfl,rfl⟩)
   refine⟨by simp[kd1.1,i1],by simp[i2],by rw[kd1.2,i3];rfl,λvals hv q y hq=> ?_⟩
   cases q with
   |zero=>cases hq;obtain⟨u,hu,ha⟩:=hv.2 0 x rfl;obtain⟨_,⟨rfl,ho⟩,hl,_⟩:=e1 u ha;exact⟨hu,hl,ho⟩
   |succ q=>
    have OQ:gf E w c (vals.extract 1 vals.size) xs:=by
     refine⟨by simp;have:=hv.1;simp at this;omega,λj b hj=> ?_⟩
     obtain⟨u,hu,hb⟩:=hv.2 (j+1) b hj;refine⟨u, ?_,hb⟩
     have:=(dY.1 hu).1;rw[eh,bB (by omega),iY];exact hu
    obtain⟨r1,r2⟩:=i4 _ OQ q y hq;refine⟨?_,r2⟩
    rw[eh]at r1;split at r1
    ·rw[iY];exact r1
    ·cases r1
theorem abi{s:Sem Unit}{w':bJ}(hr:s.run P w= .ok () w'):(do s;pure Next.skip:Sem Next).run P w= .ok .skip w':=by simp only[cq,hr,bG,cU]
theorem Gv:∀{ys:az AV} {q0 q n2:aC},AW q0 ys=ah (q,n2)->q0<=q/\ys[q-q0]? =ah (.own n2)/\∀(k m:aC),ys[k]? =ah (.own m)->k=q-q0:=by
 have aaz:∀{ys:az AV},KA ys=ai->∀(k m:aC),ys[k]? ≠ah (.own m):=by
  intro ys;induction ys with
  |nil=>intro h k m h;simp at h
  |cons y ys ih=>
   intro h k m hk;cases y with
   |own n=>cases h
   |_=>
    cases k with
    |zero=>cases hk
    |succ k=>exact ih (by simpa [KA]using h) k m hk
 intro ys;induction ys with
 |nil=>intro q0 q n2 h;cases h
 |cons y ys ih=>
  intro q0 q n2 h;have step:AW (q0+1) ys=ah (q,n2)->(∀m,y≠ .own m)->q0<=q/\(y::ys)[q-q0]? =ah (.own n2)/\∀(k m:aC),(y::ys)[k]? =ah (.own m)->k=q-q0:=by
   intro h hy;obtain⟨h1,h2,h3⟩:=ih h;have e:q-q0=(q-(q0+1))+1:=by omega
   refine⟨by omega,by rw[e,dO];exact h2,λk m hk=> ?_⟩
   cases k with
   |zero=>cases hk;exact cS rfl (hy m)
   |succ k=>have:=h3 k m hk;omega
  cases y with
  |own n=>
   unfold AW at h;cases h1:KA ys with
   |false=>rw[h1]at h;cases h
   |true=>
    rw[h1]at h;cases h;refine⟨cJ _,by rw[vP];rfl,λk m hk=> ?_⟩
    cases k with
    |zero=>omega
    |succ k=>exact cS hk (aaz h1 k m)
  |_=>exact step (by simpa [AW]using h) (λm h=>by cases h)
theorem Yu{E:fS}{w:bJ}{c:e9}{e2 n2:aC}{zs:aQ}:∀{ks:az Ck} {ys:az AV} {cs:az CV},E6 e2 n2 zs ks ys=ah cs->cs.map CV.kd=ks/\cs.length=ys.length/\
  ∀(q:aC) (x:CV),cs[q]? =ah x->∃y,ys[q]? =ah y/\((uz x=ak/\∀u,eL E w c y u->Sc u x)\/(x= .l e2 zs/\y= .own n2)):=by
 intro ks;induction ks with
 |nil=>
  intro ys cs h;cases ys with
  |nil=>cases h;exact⟨rfl,rfl,λq x h=>by simp at h⟩
  |cons=>cases h
 |cons k ks ih=>
  intro ys cs h
  have go:∀{y:AV} {r:az AV} {x:CV},ys=y::r->(E6 e2 n2 zs ks r).map (x:: ·)=ah cs->x.kd=k->((uz x=ak/\∀u,eL E w c y u->Sc u x)\/(x= .l e2 zs/\y= .own n2))->
    cs.map CV.kd=k::ks/\cs.length=ys.length/\∀(q:aC) (x:CV),cs[q]? =ah x->∃y,ys[q]? =ah y/\((uz x=ak/\∀u,eL E w c y u->Sc u x)\/(x= .l e2 zs/\y= .own n2)):=by
   intro y r x hy hm hk hx
   subst hy
   cases hr:E6 e2 n2 zs ks r with
   |none=>rw[hr]at hm;cases hm
   |some cr=>
    rw[hr]at hm;cases hm;obtain⟨i1,i2,i3⟩:=ih hr;refine⟨by simp[hk,i1],by simp[i2],λq z hq=> ?_⟩
    cases q with
    |zero=>cases hq;exact⟨y,rfl,hx⟩
    |succ q=>exact i3 q z hq
  cases ys with
  |nil=>cases k<;>cases h
  |cons y r=>
   cases k with
   |i k=>
    cases y with
    |i k' n=>
     unfold E6 at h;split at h
     ·rename_i hk;subst hk;exact go rfl h rfl (.inl ⟨rfl,λu hu=>⟨hu,trivial⟩⟩)
     ·cases h
    |_=>cases h
   |b=>
    cases y with
    |b n=>exact go rfl h rfl (.inl ⟨rfl,λu hu=>⟨hu,trivial⟩⟩)
    |_=>cases h
   |s=>
    cases y with
    |s n=>exact go rfl h rfl (.inl ⟨rfl,λu hu=>hu⟩)
    |_=>cases h
   |l e=>
    cases y with
    |own n=>
     unfold E6 at h;cases hb:(bD e e2&&bD n n2)with
     |false=>rw[hb]at h;cases h
     |true=>rw[hb,au]at h;simp only[aK]at hb;have:=aU hb.1;subst this;have:=aU hb.2;subst this;exact go rfl h rfl (.inr ⟨rfl,rfl⟩)
    |_=>cases h
   |o=>cases y<;>cases h
theorem Qz(cj:Ok E σ w c)(dI:fC E σ a w c)(hd:∀d,o.dst=ah d->d<a.tmps.size){n i j:aC}{ys:az AV}{ws:az (aC×eR)}{X:dp bn}(hF:AO n=ai)(hi:i<(c.P n).n)(h:(IW E n i j ys).val σ=ah ws)(pD:gf E w c X ys)(k8:0<ys.length)
  (exec:∀(cur:dp bn),nV w (c.P n).blk cur->(c.P n).off+i*(c.P n).sz+j+X.size<=cur.size->(execOp a.eval o).run P w= .ok .skip (w.setRow (c.P n).blk (er cur ((c.P n).off+i*(c.P n).sz+j) X.toList))):gV P E σ a w c o (ws++dw o .un):=by
 unfold IW at h;obtain⟨ob,hg0,h⟩:=Rd.bind_some h;have hg:=dy hg0;split at h
 ·rename_i el xs;obtain⟨te,h6,h⟩:=Rd.bind_some h;have h6:=dZ h6;split at h
  ·rename_i q n2 xU;cases hb0:bD n n2 with
   |true=>rw[hb0]at h;simp at h
   |false=>
    rw[hb0,ax]at h;have iy:n≠n2:=λe=>by subst e;rw[Nat.beq_refl]at hb0;cases hb0
    obtain⟨ob2,avt,h⟩:=Rd.bind_some h;have hg2:=dy avt;split at h
    ·rename_i e2 zs;obtain⟨t2,h7,h⟩:=Rd.bind_some h;have h7:=dZ h7;obtain⟨h8,h⟩:=cR h;simp only[aK]at h8;obtain⟨sR,hle⟩:=h8;have hle:=cL hle;split at h
     ·rename_i cs Jh;obtain rfl:=aF h;obtain⟨m1,m2,m3⟩:=Yu (E:=E) (w:=w) (c:=c) Jh;obtain⟨_,_,hu⟩:=Gv xU;rw[oN]at hu;obtain⟨⟨t1,q1,fZ,mE⟩,gk,fP⟩:=cj.obj n _ hg;obtain rfl:te=t1:=aF (h6.symm.trans q1);obtain⟨⟨t3,q3,Mw,Ff⟩,oH,_⟩:=cj.obj n2 _ hg2;obtain rfl:t2=t3:=aF (h7.symm.trans q3);have kg:j+cs.length<=te.ks.length:=by rw[m2];exact hle
      have hkd:cs.map CV.kd=(te.ks.drop j).take cs.length:=by rw[m1,m2]
      have lZ:i<xs.length:=by rw[<-gk.n];exact hi
      obtain⟨ju,vals,hb⟩:=gk.pos hi;have Ke:=k9 mE;have sJ:=yO mE hkd kg lZ;have Dy:=k9 sJ;have same:∀i' j',gp (cK xs i j cs) i' j'->gp xs i' j':=λi' j' hx=>(Ke i' j').2 (by have:=(Dy i' j').1 hx;rwa[fG]at this);have Km:∀y∈xs,y.length=(c.P n).sz:=λy hy=>by rw[fZ,<-mE y hy];simp
      let w':=w.setRow (c.P n).blk (er vals ((c.P n).off+i*(c.P n).sz+j) X.toList);have rM:∀b,b≠(c.P n).blk->w'.heap[b]? =w.heap[b]? :=λb hb=>setRow_other w _ b _ hb;have ayM:∀i j,¬gp zs i j:=by rintro i j ⟨y,x,h1,h2,h3⟩;rw[im sR (Ff y (aR h1)) h2]at h3;cases h3
      have aaJ:(c.P n2).nil=ak->fM c n2 (.row e2 ai zs) (c.P n2).blk:=λhn=> .inl ⟨hn,rfl⟩;have MU:fM c n (.row el ai xs) (c.P n).blk:= .inl ⟨ju,rfl⟩;have amk:(c.P n2).nil=ak->(c.P n2).blk≠(c.P n).blk:=λhn he=>iy (cj.sep n _ n2 _ _ hg hg2 MU (by rw[<-he];exact aaJ hn));let c':e9:=⟨c.P,λm i' j'=>if m=n/\i'=i/\j'=j+q then c.P n2 else c.G m i' j',c.K⟩
      have hG1:c'.G n i (j+q)=c.P n2:=bB ⟨rfl,rfl,rfl⟩;have hG2:∀i' j',¬(i'=i/\j'=j+q)->c'.G n i' j'=c.G n i' j':=λi' j' h=>bH (λe=>h ⟨e.2.1,e.2.2⟩);have hG3:∀m,m≠n->c'.G m=c.G m:=λm hm=>by funext i' j';exact bH (λe=>hm e.1)
      have Y6:∀i' j',gp (cK xs i j cs) i' j'->(c'.G n i' j').nil=ak->(i'=i/\j'=j+q/\(c.P n2).nil=ak/\(c'.G n i' j').blk=(c.P n2).blk)\/(¬(i'=i/\j'=j+q)/\(c.G n i' j').nil=ak/\(c'.G n i' j').blk=(c.G n i' j').blk/\fM c n (.row el ai xs) (c.G n i' j').blk):=by
       intro i' j' hh hn;by_cases he:i'=i/\j'=j+q
       ·obtain⟨rfl,rfl⟩:=he;rw[hG1]at hn⊢;exact .inl ⟨rfl,rfl,hn,rfl⟩
       ·rw[hG2 i' j' he]at hn⊢;exact .inr ⟨he,hn,rfl, .inr ⟨rfl,i',j',same i' j' hh,hn,rfl⟩⟩
      obtain⟨mA,B4⟩:=jg.aon (R':=λi1 j1 u1 x1=>if ai=ai then XC E w' (c'.G n) i1 j1 u1 x1 else dg E w' c'.K u1 x1) gk hb Km (i:=i) (j:=j) (cs:=cs) (vs:=X.toList) hi (by rw[fZ];exact kg) (by rw[dW,pD.1,m2])
       (λk x hk=>by
        obtain⟨y,hy,hxy⟩:=m3 k x hk;obtain⟨u,hu1,hu2⟩:=pD.2 k y hy;refine⟨u,by rw[cZ];exact hu1, ?_⟩
        rw[bB rfl];rcases hxy with ⟨hl,hsc⟩|⟨rfl,rfl⟩
        ·exact uJ hl (hsc u hu2)
        ·have wx:k=q:=hu k n2 hy;subst wx;have hu2:u=lO (c.P n2):=hu2;refine⟨by rw[hG1];exact hu2,t2,h7,sR,by rw[hG1];exact Mw,Ff, ?_⟩
         rw[hG1];exact oH.frame (λhn=>rM _ (amk hn)) (λi1 j1 y1 x1 u1 g1 g2 hr=>by rw[bB rfl]at hr;exact uL hr (im sR (Ff y1 (aR g1)) g2)))
       (λi1 y1 j1 x1 u1 h1 h2 avX hr=>by
        rw[bB rfl]at hr⊢;have Fc:XC E w' (c.G n) i1 j1 u1 x1:=hr.frame (λhl hn=>rM _ ((fP rfl).out i1 j1 ⟨y1,x1,h1,h2,hl⟩ hn ju));have avJ:¬(i1=i/\j1=j+q):=by
         rintro ⟨rfl,rfl⟩;have hq:q<cs.length:=by obtain⟨_,hq,_⟩:=Gv xU;rw[oN]at hq;rw[m2];exact(aT.1 hq).1
         rcases avX with h|h
         ·exact h rfl
         ·exact h ⟨by omega,by omega⟩
        cases x1 with
        |l ee zz=>obtain⟨r1,r2⟩:=Fc;unfold XC;rw[hG2 i1 j1 avJ];exact⟨r1,r2⟩
        |i=>exact Fc
        |b=>exact Fc
        |s=>exact Fc)
      have hr:=exec vals hb (by rw[dW]at mA;exact mA);let σ1:=pM (pM σ (db n) (.o (.row el ai (cK xs i j cs)))) (db n2) (.o .dead);obtain⟨s1,s2,s3⟩:=rY σ1 o .un;have key:∀m,wr σ1 (dw o .un) (db m)=if m=n2 then .o .dead else if m=n then .o (.row el ai (cK xs i j cs))else σ (db m):=λm=>by rw[s3];show(pM (pM σ (db n) (.o (.row el ai (cK xs i j cs)))) (db n2) (.o .dead)) (db m)=_;rw[p_,p_]
      have aly:∀m,σ (db m)≠ .jZ->wr σ1 (dw o .un) (db m)≠ .jZ:=λm hm=>by rw[key];split;simp;split;simp;exact hm
      have hA:qV σ c c':=λm _=>⟨rfl,λhf=>hG3 m (λe=>by subst e;rw[hF]at hf;cases hf)⟩
      have hCh:∀m,m=n\/m=n2->∃ob,σ (db m)= .o ob:=by rintro m (rfl|rfl);exact⟨_,hg⟩;exact⟨_,hg2⟩
      have gT:∀m x,(m=n\/m=n2)->wr σ1 (dw o .un) (db m)= .o x->(m=n2/\x= .dead)\/(m=n/\x= .row el ai (cK xs i j cs)):=by
       intro m x hm hx;rw[key]at hx;by_cases Yt:m=n2
       ·rw[bB Yt]at hx;cases hx;exact .inl ⟨Yt,rfl⟩
       ·rw[bH Yt,bB (hm.resolve_right Yt)]at hx;cases hx;exact .inr ⟨hm.resolve_right Yt,rfl⟩
      have hh:=cj.xH (σ':=wr σ1 (dw o .un)) (w':=w') (c':=c') (λm=>m=n\/m=n2) (λm hm=>by rw[key,bH (λe=>hm (.inr e)),bH (λe=>hm (.inl e))]) aly hA (λm hm _=>hG3 m (λe=>hm (.inl e)))
       (λb _ YQ=>rM b (λe=>YQ ⟨n,_, .inl rfl,hg,by rw[e];exact MU⟩)) (by simp[w',lA]) (λ_ h=>h) (λ_ h=> .inl h) (λb hb=>js (cj.lt b hb) (by simp[w',lA]))
       (λm x hm hx=>by
        rcases gT m x hm hx with ⟨rfl,rfl⟩|⟨rfl,rfl⟩
        ·trivial
        ·refine⟨⟨te,q1,fZ,sJ⟩,B4,λ_=>⟨λi1 j1 hh hn _ he=> ?_,λi1 j1 i2 j2 h1 h2 n1 n2' he=> ?_⟩⟩
         ·rcases Y6 i1 j1 hh hn with ⟨_,_,g1,g2⟩|⟨_,g1,g2,g3⟩
          ·exact amk g1 (g2.symm.trans he)
          ·exact(fP rfl).out i1 j1 (same i1 j1 hh) g1 ju (g2.symm.trans he)
         ·rcases Y6 i1 j1 h1 n1 with ⟨a1,a2,a3,a4⟩|⟨a1,a2,a3,a4⟩<;>rcases Y6 i2 j2 h2 n2' with ⟨b1,b2,b3,b4⟩|⟨b1,b2,b3,b4⟩
          ·exact⟨a1.trans b1.symm,a2.trans b2.symm⟩
          ·exfalso;exact iy (cj.sep m _ n2 _ _ hg hg2 b4 (by rw[<-b3,<-he,a4];exact aaJ a3))
          ·exfalso;exact iy (cj.sep m _ n2 _ _ hg hg2 a4 (by rw[<-a3,he,b4];exact aaJ b3))
          ·exact(fP rfl).one i1 j1 i2 j2 (same i1 j1 h1) (same i2 j2 h2) a2 b2 (a3.symm.trans (he.trans b3)))
       (λm x b hm hx hf=>by
        rcases gT m x hm hx with ⟨rfl,rfl⟩|⟨rfl,rfl⟩
        ·exact hf.elim
        ·have alp:j5 (λk=>k=m\/k=n2) σ c b:=by
          rcases hf with ⟨_,rfl⟩|⟨_,i1,j1,hh,hn,rfl⟩
          ·exact⟨m,_, .inl rfl,hg,MU⟩
          ·rcases Y6 i1 j1 hh hn with ⟨_,_,g1,g2⟩|⟨_,g1,g2,g3⟩
           ·rw[g2];exact⟨n2,_, .inr rfl,hg2,aaJ g1⟩
           ·rw[g2];exact⟨m,_, .inl rfl,hg,g3⟩
         exact⟨.inl alp,cj.KB alp.own⟩)
       (λm x m' x' b hm xT hx pE hf vn=>by
        rcases gT m x hm hx with ⟨rfl,rfl⟩|⟨rfl,rfl⟩
        ·exact hf.elim
        ·rcases gT m' x' xT pE with ⟨rfl,rfl⟩|⟨rfl,rfl⟩
         ·exact vn.elim
         ·rfl)
       (λm bs hm hx=>by rcases gT m _ hm hx with ⟨_,h⟩|⟨_,h⟩<;>cases h) rfl rfl rfl
      intro K Q hK;refine El hr (hK undef w' c' hh.1 ?_ hh.2 hA);refine dI.xH cj hh.2 hA aly o undef (λk hk=>by rw[s1 k hk];show slot (pM (pM σ (db n) (.o (.row el ai (cK xs i j cs)))) (db n2) (.o .dead)) k=_;rw[jl,jl]) (λd ho=>⟨hd d ho, ?_, ?_⟩)
      ·rw[s2 d ho];trivial
      ·rw[s2 d ho];intro k hk;simp[cM]at hk
     ·simp at h
    ·simp at h
  ·simp at h
 ·simp at h
theorem VR(hE:eH P E)(cj:Ok E σ w c)(dI:fC E σ a w c)(hd:∀d,o.dst=ah d->d<a.tmps.size){t:aC}{p x:dx}(ho:o.op= .store t p x)(h:(l_ E nm o).val σ=ah e):gV P E σ a w c o e.ws:=by
 simp only[l_,ho]at h;obtain⟨ti,h1,h⟩:=Rd.bind_some h;obtain⟨pv,h2,h⟩:=Rd.bind_some h;obtain⟨xv,h3,h⟩:=Rd.bind_some h;have h1:=dZ h1;obtain⟨ep,kp⟩:=iW dI h2;obtain⟨ex,kx⟩:=mi dI h3;cases xv with
 |v g ys=>
  obtain⟨h4,h⟩:=cR h;have h4:=aU h4;obtain⟨ws,h5,h⟩:=Rd.bind_some h;obtain rfl:=aF h;have pD:=qi.cells ex;have Jh:(a.eval x).cells.size=ti.ks.length:=by rw[pD.1,h4]
  have ky:∀b∈ys,jf σ b:=λb hb n hn=>kx n (bL.2 ⟨b,hb,hn⟩);obtain⟨_,_,_,_,k8,_⟩:=hE.info t ti h1;have exec:∀{b of:aC} {cur:dp bn},a.eval p= .pointer (ah (ad b of))->nV w b cur->of+(a.eval x).cells.size<=cur.size->(execOp a.eval o).run P w= .ok .skip (w.setRow b (er cur of (a.eval x).cells.toList)):=by intro b of cur hp hb hf;unfold execOp;rw[ho];refine abi ?_;rw[hp];exact KR w hE h1 Jh hb hf pD.one
  have hkK:∀(b:aC) (new:dp bn),wW σ c b->∀b',c.K b'->(w.setRow b new).heap[b']? =w.heap[b']? :=by intro b new hb b' hk;exact setRow_other w b b' new (λe=>by subst e;exact cj.KB hb hk)
  have h5:(IX E pv ys).val σ=ah ws\/∃n i j,pv= .rp n i j/\AO n=ai/\(IW E n i j ys).val σ=ah ws:=by
   cases pv with
   |rp n i j=>
    unfold W5 at h5;simp only at h5;cases hF:AO n with
    |true=>rw[hF,au]at h5;exact .inr ⟨n,i,j,rfl,hF,h5⟩
    |false=>rw[hF,ax]at h5;exact .inl h5
   |_=>exact .inl h5
  rcases h5 with h5|⟨n,i,j,rfl,hF,h5⟩
  rotate_left
  ·obtain⟨hpi,hpv⟩:=ep;exact Qz cj dI hd hF hpi h5 pD (by rw[<-h4]at k8;exact k8) (λcur hb hf=>exec hpv hb hf)
  cases pv with
  |bp n j=>
   obtain⟨ob,hg,h5⟩:=Rd.bind_some h5;have hg:=dy hg;cases ob with
   |box xs=>
    obtain⟨h6,h5⟩:=cR h5;have h6:=cL h6;obtain rfl:=aF h5;obtain⟨cur,hb,fZ,hcv⟩:=cj.obj n _ hg;have wy:wW σ c (c.P n).blk:=⟨n,_,hg,rfl⟩
    have mA:j+(a.eval x).cells.size<=cur.size:=by rw[pD.1,fZ];exact h6
    have alj:j+(a.eval x).cells.toList.length<=cur.size:=by rw[dW];exact mA
    have Ey:=hkK (c.P n).blk (er cur j (a.eval x).cells.toList) wy;refine tz cj dI hd hg (ob':= .box (dS xs j ys)) ?_ (λb hb=>hb) (λzs hz b hb=> ?_) (s:= .un) trivial (λn hn=>by simp[cM]at hn) (λb hb RE=>setRow_other w _ b _ (λe=>RE e)) (by simp[lA]) rfl rfl rfl (.inr ⟨exec ep hb mA,rfl⟩)
    ·have:=(gf.put (E:=E) (w:=w) (c:=c) ⟨fZ,hcv⟩ pD h6)
     refine⟨_,hb.setRow (fa alj),this.1,λq b hq=> ?_⟩
     obtain⟨u,hu,hub⟩:=this.2 q b hq;exact⟨u,hu,hub.frame Ey (λ_ h=>h) (λ_ _=>⟨rfl,rfl⟩)⟩
    ·cases hz;rcases DF hb with hb|hb
     ·exact cj.kn n xs hg b hb
     ·exact ky b hb
   |_=>simp at h5
  |rp n i j=>
   obtain⟨ob,hg,h5⟩:=Rd.bind_some h5;have hg:=dy hg;cases ob with
   |row el B2 xs=>
    obtain⟨te,h6,h5⟩:=Rd.bind_some h5;have h6:=dZ h6;obtain⟨h7,h5⟩:=cR h5;obtain⟨⟨cs,w2⟩,h8,h5⟩:=Rd.bind_some h5;obtain rfl:=aF h5;obtain⟨m1,m2,_,m3⟩:=Dj (E:=E) (w:=w) (c:=c) h7 h8;obtain⟨⟨t2,q1,fZ,mE⟩,gk,fP⟩:=cj.obj n _ hg;obtain rfl:te=t2:=aF (h6.symm.trans q1);obtain⟨hi,hpv⟩:=ep;have hlk:cs.length=((te.ks.drop j).take ys.length).length:=by rw[<-m1];simp
    have kg:j+cs.length<=te.ks.length:=by
     rw[eE,iC]at hlk;have:0<cs.length:=by rw[m2,h4];exact k8
     omega
    have hkd:cs.map CV.kd=(te.ks.drop j).take cs.length:=by rw[m1,m2]
    have lZ:i<xs.length:=by rw[<-gk.n];exact hi
    have ju:(c.P n).nil=false:=by
     cases hn:(c.P n).nil with
     |false=>rfl
     |true=>have:=(gk.nil hn).1;subst this;simp at lZ
    have wy:wW σ c (c.P n).blk:=⟨n,_,hg, .inl ⟨ju,rfl⟩⟩
    have Ey:=λnew=>hkK (c.P n).blk new wy;have Ke:=k9 mE;have sJ:=yO mE hkd kg lZ;have Dy:=k9 sJ;have same:∀i' j',gp (cK xs i j cs) i' j'->gp xs i' j':=λi' j' hx=>(Ke i' j').2 (by have:=(Dy i' j').1 hx;rwa[fG]at this);obtain⟨_,vals,hb⟩:=gk.pos hi;have Km:∀y∈xs,y.length=(c.P n).sz:=λy hy=>by rw[fZ,<-mE y hy];simp
    have avr:=Ey (er vals ((c.P n).off+i*(c.P n).sz+j) (a.eval x).cells.toList);have hw:∀b,c.K b->(w.setRow (c.P n).blk (er vals ((c.P n).off+i*(c.P n).sz+j) (a.eval x).cells.toList)).heap[b]? =w.heap[b]? :=avr;generalize ON:w.setRow (c.P n).blk (er vals ((c.P n).off+i*(c.P n).sz+j) (a.eval x).cells.toList)=w' at hw;have rM:∀b,b≠(c.P n).blk->w'.heap[b]? =w.heap[b]? :=λb hb=>by rw[<-ON];exact setRow_other w _ b _ hb
    obtain⟨mA,B4⟩:=jg.put (R':=λi1 j1 u1 x1=>if B2=ai then XC E w' (c.G n) i1 j1 u1 x1 else dg E w' c.K u1 x1) gk hb Km (i:=i) (j:=j) (cs:=cs) (vs:=(a.eval x).cells.toList) hi (by rw[fZ];exact kg) (by rw[dW,pD.1,m2])
     (λq y hq=>by
      obtain⟨r1,r2,r3⟩:=m3 _ pD q y hq;refine⟨Rj y,by rw[cZ];exact r1, ?_⟩
      split
      ·exact uJ r2 ⟨rfl,r3⟩
      ·exact kM r2 ⟨rfl,r3⟩)
     (λi1 y1 j1 x1 u1 h1 h2 hr=>by
      cases B2 with
      |true=>rw[bB rfl]at hr⊢;exact hr.frame (λhl hn=>rM _ ((fP rfl).out i1 j1 ⟨y1,x1,h1,h2,hl⟩ hn ju))
      |false=>rw[bH (by simp)]at hr⊢;exact hr.frame hw (λ_ h=>h))
    rw[ON]at B4;refine tz cj dI hd hg (ob':= .row el B2 (cK xs i j cs)) ?_ ?_ (λzs hz=>by cases hz) (s:= .un) trivial (λn hn=>by simp[cM]at hn) (w':=w') (λb hb RE=>rM b (λe=>RE (.inl ⟨ju,e⟩))) (by rw[<-ON];simp[lA]) (by rw[<-ON];rfl) (by rw[<-ON];rfl) (by rw[<-ON];rfl) (.inr ⟨?_,rfl⟩)
    ·exact⟨⟨te,q1,fZ,sJ⟩,B4,λhx=>⟨λi1 j1 hh=>(fP hx).out i1 j1 (same i1 j1 hh),λi1 j1 i2 j2 h1 h2=>(fP hx).one i1 j1 i2 j2 (same i1 j1 h1) (same i2 j2 h2)⟩⟩
    ·rintro b (hb|⟨hx,i1,j1,hh,hn⟩)
     ·exact .inl hb
     ·exact .inr ⟨hx,i1,j1,same i1 j1 hh,hn⟩
    ·rw[<-ON];refine exec hpv hb ?_;rw[dW]at mA;exact mA
   |_=>simp at h5
  |ip n i j i2 j2=>
   obtain⟨ob,hg,h5⟩:=Rd.bind_some h5;have hg:=dy hg;cases ob with
   |row el B2 xs=>
    cases B2 with
    |false=>simp at h5
    |true=>
    obtain⟨te,h6,h5⟩:=Rd.bind_some h5;have h6:=dZ h6;split at h5
    ·rename_i e2 zA;obtain⟨t2,h7,h5⟩:=Rd.bind_some h5;have h7:=dZ h7;obtain⟨h8,h5⟩:=cR h5;obtain⟨⟨cs,w2⟩,h9,h5⟩:=Rd.bind_some h5;obtain rfl:=aF h5;have alE:plain ((t2.ks.drop j2).take ys.length)=true:=bA.2 (λk hk=>bA.1 h8 k (kT (kU hk)));obtain⟨m1,m2,_,m3⟩:=Dj (E:=E) (w:=w) (c:=c) alE h9;obtain⟨⟨hi,E_,hpv⟩,_⟩:=ep;obtain⟨⟨t1,q1,fZ,mE⟩,gk,fP⟩:=cj.obj n _ hg;obtain rfl:te=t1:=aF (h6.symm.trans q1);obtain⟨zs,y,t3,r1,r2,r3,r4,r5,r6,r7,_⟩:=CA cj hg h6 zA hi;obtain rfl:t2=t3:=aF (h7.symm.trans r3);rw[fD r1 r2];simp only[gD];have hlk:cs.length=((t2.ks.drop j2).take ys.length).length:=by rw[<-m1];simp
     have kg:j2+cs.length<=t2.ks.length:=by
      rw[eE,iC]at hlk;have:0<cs.length:=by rw[m2,h4];exact k8
      omega
     have hkd:cs.map CV.kd=(t2.ks.drop j2).take cs.length:=by rw[m1,m2]
     have avw:i2<zs.length:=by rw[<-r7.n];exact E_
     have lZ:i<xs.length:=(aT.1 r1).1;obtain⟨DA,vals,hb⟩:=r7.pos E_;obtain⟨ju,pv,hpb⟩:=gk.pos hi;have Fa:gp xs i j:=⟨y,_,r1,r2,rfl⟩
     have wy:wW σ c (c.G n i j).blk:=⟨n,_,hg, .inr ⟨rfl,i,j,Fa,DA,rfl⟩⟩
     have hw:=hkK (c.G n i j).blk (er vals ((c.G n i j).off+i2*(c.G n i j).sz+j2) (a.eval x).cells.toList) wy;have My:∀y∈zs,y.length=(c.G n i j).sz:=λy hy=>by rw[r5,<-r6 y hy];simp
     obtain⟨mA,B4⟩:=jg.put (R':=λ_ _ u1 x1=>Sc u1 x1) r7 hb My (i:=i2) (j:=j2) (cs:=cs) (vs:=(a.eval x).cells.toList) E_ (by rw[r5];exact kg) (by rw[dW,pD.1,m2])
      (λq y hq=>⟨Rj y,by rw[cZ];exact(m3 _ pD q y hq).1,rfl,(m3 _ pD q y hq).2.2⟩) (λ_ _ _ _ _ _ _ hr=>hr)
     generalize ON:w.setRow (c.G n i j).blk (er vals ((c.G n i j).off+i2*(c.G n i j).sz+j2) (a.eval x).cells.toList)=w' at hw B4;have rM:∀b,b≠(c.G n i j).blk->w'.heap[b]? =w.heap[b]? :=λb hb=>by rw[<-ON];exact setRow_other w _ b _ hb
     have hjk:j<te.ks.length:=(aT.1 zA).1;have ahf:[CV.l e2 (cK zs i2 j2 cs)].map CV.kd=(te.ks.drop j).take [CV.l e2 (cK zs i2 j2 cs)].length:=by rw[bC,List.take_one,List.head?_drop,zA];rfl
     have sJ:=yO (i:=i) (j:=j) (cs:=[CV.l e2 (cK zs i2 j2 cs)]) mE ahf (by simp;omega) lZ;have Ke:=k9 mE;have Dy:=k9 sJ;have same:∀i' j',gp (cK xs i j [CV.l e2 (cK zs i2 j2 cs)]) i' j'->gp xs i' j':=λi' j' hx=>(Ke i' j').2 (by have:=(Dy i' j').1 hx;rwa[fG]at this);have ahm:(c.P n).blk≠(c.G n i j).blk:=λe=>(fP rfl).out i j Fa DA ju e.symm;have oH:jg w' (c.P n) (cK xs i j [CV.l e2 (cK zs i2 j2 cs)]) (λi1 j1 u1 x1=>if ai=ai then XC E w' (c.G n) i1 j1 u1 x1 else dg E w' c.K u1 x1):=by
      obtain⟨vs,k1,k2,k3,k4,k5⟩:=gk.mem ju;refine⟨by rw[fG];exact gk.n,λhn=>(by rw[ju]at hn;cases hn),λ_=>⟨vs,k1.frame (rM _ ahm),k2,k3,k4,λi1 y1 j1 x1 g1 g2=> ?_⟩⟩
      rw[yM r1]at g1;simp only[if_true]at k5⊢;by_cases Kd:i1=i
      ·subst Kd;rw[bB rfl]at g1;cases g1;have Km:y.length=te.ks.length:=by rw[<-mE y (aR r1)];simp
       rw[py (by simp;omega)]at g2;by_cases hq:j<=j1/\j1<j+[CV.l e2 (cK zs i2 j2 cs)].length
       ·rw[bB hq]at g2;have:j1=j:=by simp at hq;omega
        subst this;simp at g2;subst g2;obtain⟨u,hu,hr⟩:=k5 _ _ _ _ r1 r2;refine⟨u,hu,hr.1,t2,r3,r4,r5,yO r6 hkd kg avw,B4⟩
       ·rw[bH hq]at g2;obtain⟨u,hu,hr⟩:=k5 _ _ _ _ r1 g2;refine⟨u,hu,hr.frame (λhl hn=>rM _ (λe=> ?_))⟩
        have:=((fP rfl).one _ _ _ _ ⟨y,x1,r1,g2,hl⟩ Fa hn DA e).2;simp at hq;omega
      ·rw[bH Kd]at g1;obtain⟨u,hu,hr⟩:=k5 _ _ _ _ g1 g2;exact⟨u,hu,hr.frame (λhl hn=>rM _ (λe=>Kd ((fP rfl).one _ _ _ _ ⟨y1,x1,g1,g2,hl⟩ Fa hn DA e).1))⟩
     refine tz cj dI hd hg (ob':= .row el ai (cK xs i j [CV.l e2 (cK zs i2 j2 cs)])) ?_ ?_ (λzs hz=>by cases hz) (s:= .un) trivial (λn hn=>by simp[cM]at hn) (w':=w') (λb hb RE=>rM b (λe=>RE (.inr ⟨rfl,i,j,Fa,DA,e⟩))) (by rw[<-ON];simp[lA]) (by rw[<-ON];rfl) (by rw[<-ON];rfl) (by rw[<-ON];rfl) (.inr ⟨?_,rfl⟩)
     ·exact⟨⟨te,q1,fZ,sJ⟩,oH,λhx=>⟨λi1 j1 hh=>(fP hx).out i1 j1 (same i1 j1 hh),λi1 j1 i2 j2 h1 h2=>(fP hx).one i1 j1 i2 j2 (same i1 j1 h1) (same i2 j2 h2)⟩⟩
     ·rintro b (hb|⟨hx,i1,j1,hh,hn⟩)
      ·exact .inl hb
      ·exact .inr ⟨hx,i1,j1,same i1 j1 hh,hn⟩
     ·rw[<-ON];refine exec hpv hb ?_;rw[dW]at mA;exact mA
    ·simp at h5
   |_=>simp at h5
  |_=>simp[IX]at h5
 |j_=>simp at h
 |un=>simp at h
end
end Go.FG

namespace Go.FG
theorem Q7{ks:az Ck}(h:plain ks=ai):ML ks=true:=by refine bA.2 (λk hk=> ?_);have:=bA.1 h k hk;cases k<;>first|rfl|exact this
theorem tM{xs:aQ}{ks:az Ck}(h:∀y∈xs,y.map CV.kd=ks)(hp:plain ks=ai){i j:aC}:¬gp xs i j:=by intro hx;obtain⟨_,e,hk⟩:=(k9 h i j).1 hx;have:=bA.1 hp _ (aR hk);cases this
theorem JQ{xs z:aQ}{lo hi:aC}(h1:lo<=hi)(h2:hi<=xs.length)(hz:z.length=hi-lo)(i:aC):(xs.take lo++z++xs.drop hi)[i]? =if lo<=i/\i<hi then z[i-lo]? else xs[i]? :=by
 by_cases a:i<lo
 ·rw[bH (by omega),bU,dC (by simp;omega),ea,bB a]
 ·by_cases b:i<hi
  ·rw[bB ⟨by omega,b⟩,bU,c8 (by simp;omega),dC (by simp;omega)];congr 1;simp;omega
  ·rw[bH (by omega),bU,c8 (by simp;omega),c8 (by simp;omega),dV];congr 1;simp;omega
section
variable {P:c6} {E:fS} {σ:St} {a:Act} {w:bJ} {c:e9} {o:fB} {nm:aC} {e:sV}
theorem Rg{t ty el:aC}{z:bn}{inf:Ls}(hu:P.underlying t=ah (.slice el))(hi:P.info? el=ah inf)(hz:inf.zero=ah z){b of n cp:aC}{cur:dp bn}(hn:0<n)(hb:nV w b cur)(hf:of+n*z.cells.size<=cur.size)(h1:∀u∈z.cells.toList,u.oneCell'=ai):
  (oM #[t] ty #[.slice (ah (ad b of)) n cp]).run P w= .ok (.tuple #[]) (w.setRow b (er cur of (madeCells z.cells (n*z.cells.size)).toList)):=by
 have Mv:=nI (P:=P) w (o:=of) (vs:=(madeCells z.cells (n*z.cells.size)).toList) hb (by simpa [size_madeCells]using hf) (λv hv=>by
  unfold madeCells at hv;simp only[BC,cw]at hv;obtain⟨q,hq,rfl⟩:=hv;have hq:q<n*z.cells.size:=by simpa using hq
  have hp:0<z.cells.size:=by rcases Es z.cells.size with h|h;(rw[h]at hq;simp at hq);exact h
  have:q%z.cells.size<z.cells.size:=Et _ hp;rw[getElem!_pos z.cells _ this];exact h1 _ (by simp))
 have hz':(fO z.cells n)=madeCells z.cells (n*z.cells.size):=rfl;cases n with
 |zero=>omega
 |succ n=>simp[oM,run_underlying hu,zeroValue,typeInfo,hi,hz,hz',Mv]
theorem D9{t ty el:aC}(hu:P.underlying t=ah (.slice el)){A:ay Addr}{cp:aC}:(oM #[t] ty #[.slice A 0 cp]).run P w= .ok (.tuple #[]) w:=by cases A<;>simp[oM,run_underlying hu]
theorem VN(hE:eH P E)(cj:Ok E σ w c)(dI:fC E σ a w c)(hd:∀d,o.dst=ah d->d<a.tmps.size){cl:Call}(ho:o.op= .call cl)(hb:cl.callee= .builtin .clear)(h:(l_ E nm o).val σ=ah e):gV P E σ a w c o e.ws:=by
 simp only[l_,ho,hb]at h;split at h
 ·rename_i x hx;split at h
  ·rename_i t ht;obtain⟨k,hk,h⟩:=Rd.bind_some h;cases k with
   |l el=>
    obtain⟨v,h1,h⟩:=Rd.bind_some h;obtain⟨ws,h2,h⟩:=Rd.bind_some h;obtain rfl:=aF h;obtain⟨ev,kv⟩:=iW dI h1;have hu:=kI hE hk;have hx:=nA hx;have ht:=nA ht;have exec:∀{w'},(oM #[t] o.type #[a.eval x]).run P w= .ok (.tuple #[]) w'->(execOp a.eval o).run P w= .ok (.value (.tuple #[])) w':=by intro w' hr;obtain⟨cs,Jh⟩:=mP (P:=P) (a:=a) (w:=w) ho hb;rw[Jh,hx,ht];simp only[builtin,EJ,eC,CY];exact iT hr
    have sv:jh E w c (.j_ []) (.tuple #[]):=⟨#[],rfl,rfl,λj agg xs hj=>by simp at hj⟩
    have aj:∀A cp,a.eval x= .slice A 0 cp->(execOp a.eval o).run P w= .ok (.value (.tuple #[])) w:=λA cp hv=>exec (by rw[hv];exact D9 hu);have main:∀(n:aC) (ex:aY) (xs:aQ) (lo hi:aC) (te:TI),σ (db n)= .o (.row el ex xs)->E.ty el=ah te->plain te.ks=ai->xE (c.P n) lo hi (a.eval x)->gV P E σ a w c o ([(db n, .o (.row el ex (xs.take lo++aN te.ks (hi-lo)++xs.drop hi)))]++dw o (.j_ [])):=by
     intro n ex xs lo hi te hg Mx sR hv;obtain⟨⟨t2,q1,fZ,mE⟩,gk,fP⟩:=cj.obj n _ hg;obtain rfl:te=t2:=aF (Mx.symm.trans q1);obtain⟨v1,v2,v3,v4⟩:=hv;have hle:hi<=xs.length:=by rw[<-gk.n];exact v2
     have AL:=Q7 sR;have My:(aN te.ks (hi-lo)).length=hi-lo:=by simp[aN]
     by_cases hz:hi-lo=0
     ·have alH:xs.take lo++aN te.ks (hi-lo)++xs.drop hi=xs:=by
       have:hi=lo:=by omega
       subst this;simp[aN]
      rw[alH];have hr:(execOp a.eval o).run P w= .ok (.value (.tuple #[])) w:=by
       cases hq:(c.P n).nil with
       |true=>exact aj _ _ (v3 hq)
       |false=>
        rcases v4 hq with ⟨_,h⟩|⟨_,oo,_,h⟩
        ·rw[hz]at h;exact aj _ _ h
        ·exact aj _ _ h
      exact tz cj dI hd hg (cj.obj n _ hg) (λb hb=>hb) (λzs hz=>by cases hz) sv (λn hn=>by simp[cM]at hn) (λb _ _=>rfl) (cJ _) rfl rfl rfl (.inl hr)
     ·have ju:(c.P n).nil=false:=by
       cases hq:(c.P n).nil with
       |false=>rfl
       |true=>have:=(gk.nil hq).1;subst this;simp at hle;omega
      obtain⟨vals,k1,k2,k3,k4,k5⟩:=gk.mem ju;rcases v4 ju with ⟨u1,hv⟩|⟨u1,oo,_,hv⟩
      ·obtain⟨inf,iV,aDM,_,_,Lb⟩:=hE.info el te Mx;obtain⟨z,Fj,hz3,_⟩:=Lb AL;have RH:z.cells.size=te.ks.length:=by rw[hz3];simp
       have hbd:(c.P n).off+lo*(c.P n).sz+(hi-lo)*z.cells.size<=vals.size:=by rw[RH,<-fZ,lX,<-dn];have:(lo+(hi-lo))*(c.P n).sz<=(c.P n).cap*(c.P n).sz:=b_ _ (by omega);omega
       have hr:=Rg (P:=P) (w:=w) (ty:=o.type) (of:=(c.P n).off+lo*(c.P n).sz) (n:=hi-lo) (cp:=(c.P n).cap-lo) hu iV Fj (by omega) k1 hbd (by rw[hz3];intro u sq;obtain⟨k,vq,rfl⟩:=cw.1 (by simpa using sq:u∈te.ks.map iH);cases k<;>rfl);rw[<-hv]at hr;have wy:wW σ c (c.P n).blk:=⟨n,_,hg, .inl ⟨ju,rfl⟩⟩
       rw[RH,hz3]at hr;have oT:(madeCells (te.ks.map iH).toArray ((hi-lo)*te.ks.length)).toList.length=(hi-lo)*te.ks.length:=by simp[size_madeCells]
       have ag5:(c.P n).off+lo*(c.P n).sz+(madeCells (te.ks.map iH).toArray ((hi-lo)*te.ks.length)).toList.length<=vals.size:=by rw[oT,<-RH];exact hbd
       have Ew:=k1.setRow (fa ag5);have alk:=gz ag5;generalize AK:er vals ((c.P n).off+lo*(c.P n).sz) (madeCells (te.ks.map iH).toArray ((hi-lo)*te.ks.length)).toList=new at hr Ew alk;have avL:new.size=vals.size:=by rw[<-AK];exact fa ag5
       have rM:∀b,b≠(c.P n).blk->(w.setRow (c.P n).blk new).heap[b]? =w.heap[b]? :=λb hb=>setRow_other w _ b _ hb;have hw:∀b,c.K b->(w.setRow (c.P n).blk new).heap[b]? =w.heap[b]? :=λb hk=>rM b (λe=>by subst e;exact cj.KB wy hk);have sJ:∀y∈xs.take lo++aN te.ks (hi-lo)++xs.drop hi,y.map CV.kd=te.ks:=by
        intro y hy;rw[bf,bf]at hy;rcases hy with (hy|hy)|hy
        ·exact mE y (kU hy)
        ·exact yW AL _ y hy
        ·exact mE y (kT hy)
       refine tz cj dI hd hg (ob':= .row el ex (xs.take lo++aN te.ks (hi-lo)++xs.drop hi)) ?_ ?_ (λzs hz=>by cases hz) (w':=w.setRow (c.P n).blk new) ⟨#[],rfl,rfl,λj agg xs hj=>by simp at hj⟩ (λn hn=>by simp[cM]at hn) (λb _ RE=>rM b (λe=>RE (.inl ⟨ju,e⟩))) (by simp[lA]) rfl rfl rfl (.inl (exec hr))
       ·refine⟨⟨te,Mx,fZ,sJ⟩,⟨?_,λhn=>(by rw[ju]at hn;cases hn),λ_=>⟨new,Ew,k2,k3,by rw[avL];exact k4,λi y j x lZ hj=> ?_⟩⟩,λ_=>⟨λi j hh=>cS hh (tM sJ sR),λi j i' j' hh=>cS hh (tM sJ sR)⟩⟩
        ·rw[gk.n];simp[aN];omega
        ·have hl:=im sR (sJ y (aR lZ)) hj;have kg:j<te.ks.length:=by rw[<-sJ y (aR lZ),bR];exact(aT.1 hj).1
         have toR:∀u,Sc u x->(if ex=ai then XC E (w.setRow (c.P n).blk new) (c.G n) i j u x else dg E (w.setRow (c.P n).blk new) c.K u x):=by
          intro u hu;split
          ·exact uJ hl hu
          ·exact kM hl hu
         rw[JQ v1 hle My]at lZ;rw[alk,oT];by_cases hq:lo<=i/\i<hi
         ·rw[bB hq]at lZ;obtain⟨alo,k,AJ,rfl⟩:=uM lZ hj;have h2:(i-lo+1)*te.ks.length<=(hi-lo)*te.ks.length:=b_ _ alo;have h3:i*te.ks.length=lo*te.ks.length+(i-lo)*te.ks.length:=by rw[<-dn];congr 1;omega
          rw[dn]at h2;rw[fZ,bB (by omega)];refine⟨iH k, ?_,toR _ ?_⟩
          ·have:=lP (n:=hi-lo) alo AJ;rw[cZ,<-this];congr 1;omega
          ·have YS:=bA.1 sR k (aR AJ);cases k<;>first|exact⟨rfl,trivial⟩|exact⟨rfl,bk _⟩|cases YS
         ·rw[bH hq]at lZ;obtain⟨u,sq,Fc⟩:=k5 i y j x lZ hj;refine⟨u, ?_,toR u ?_⟩
          ·rw[bH ?_];exact sq;rw[fZ];by_cases Dz:i<lo
           ·have:(i+1)*te.ks.length<=lo*te.ks.length:=b_ _ Dz;rw[dn]at this;omega
           ·have:hi*te.ks.length<=i*te.ks.length:=b_ _ (by omega);have h3:hi*te.ks.length=lo*te.ks.length+(hi-lo)*te.ks.length:=by rw[<-dn];congr 1;omega
            omega
          ·split at Fc
           ·exact uL Fc hl
           ·exact pq Fc hl
       ·rintro b (hb|⟨_,i,j,hh,_⟩)
        ·exact .inl hb
        ·exact cS hh (tM sJ sR)
      ·omega
    unfold TW at h2;cases v with
    |nl=>obtain rfl:=aF h2;exact gJ cj dI hd sv (λn hn=>by simp[cM]at hn) (aj _ _ ev)
    |own n=>
     obtain⟨ob,hg,h2⟩:=Rd.bind_some h2;have hg:=dy hg;cases ob with
     |row e' ex xs=>obtain⟨te,q1,h2⟩:=Rd.bind_some h2;obtain⟨q2,h2⟩:=cR h2;obtain rfl:=aF h2;simp only[aK]at q2;have:=aU q2.1;subst this;have ev:a.eval x=lO (c.P n):=ev;have:=main n ex xs 0 xs.length te hg (dZ q1) q2.2 (by rw[ev];exact wG cj hg);simpa using this
     |_=>simp at h2
    |vw n lo hi=>
     obtain⟨ob,hg,h2⟩:=Rd.bind_some h2;have hg:=dy hg;cases ob with
     |row e' ex xs=>obtain⟨te,q1,h2⟩:=Rd.bind_some h2;obtain⟨q2,h2⟩:=cR h2;obtain rfl:=aF h2;simp only[aK]at q2;have:=aU q2.1;subst this;exact main n ex xs lo hi te hg (dZ q1) q2.2 ev
     |_=>simp at h2
    |_=>simp at h2
   |_=>simp at h
  ·simp at h
 ·simp at h
end
end Go.FG

namespace Go.FG
def ka(D:az (aC×Obj)):az (aC×eR):=D.map λd=>(db d.1, .o d.2)
def uN(D:az (aC×Obj))(m:aC):Prop:=∃x,(m,x)∈D
theorem abh:∀(D:az (aC×Obj)) (σ:St),(∀m,(wr σ (ka D) (db m)=σ (db m)/\¬uN D m)\/∃x,(m,x)∈D/\wr σ (ka D) (db m)= .o x)/\∀m,slot (wr σ (ka D)) m=slot σ m:=by
 intro D;induction D with
 |nil=>intro σ;exact⟨λm=> .inl ⟨rfl,λ⟨x,hx⟩=>by cases hx⟩,λm=>rfl⟩
 |cons d D ih=>
  intro σ;obtain⟨n,x⟩:=d;obtain⟨h1,h2⟩:=ih (pM σ (db n) (.o x));refine⟨λm=> ?_,λm=> ?_⟩
  ·show(wr (pM σ (db n) (.o x)) (ka D) (db m)=_/\_)\/∃y,_/\wr (pM σ (db n) (.o x)) (ka D) (db m)=_;rcases h1 m with ⟨q1,q2⟩|⟨y,q1,q2⟩
   ·rw[p_]at q1;by_cases hm:m=n
    ·subst hm;exact .inr ⟨x,by simp,by rw[q1,bB rfl]⟩
    ·refine .inl ⟨by rw[q1,bH hm],λ⟨y,hy⟩=> ?_⟩;rcases cB.1 hy with hy|hy
     ·cases hy;exact hm rfl
     ·exact q2 ⟨y,hy⟩
   ·exact .inr ⟨y,c9 _ q1,q2⟩
  ·show slot (wr (pM σ (db n) (.o x)) (ka D)) m=_;rw[h2,jl]
section
variable {P:c6} {E:fS} {σ:St} {a:Act} {w:bJ} {c:e9} {o:fB} {nm:aC} {e:sV}
theorem JO(cj:Ok E σ w c)(dI:fC E σ a w c){o:fB}(hd:∀d,o.dst=ah d->d<a.tmps.size){D:az (aC×Obj)}{s:SV}{v:bn}{w':bJ}{c':e9}
  (hA:jz σ c c')
  (mS:∀n x,(n,x)∈D->pR E w' c' n x)
  (pV:∀n x b,(n,x)∈D->fM c' n x b->(j5 (uN D) σ c b\/w.heap.size<=b)/\¬c'.K b)
  (Uq:∀n x n' x' b,(n,x)∈D->(n',x')∈D->fM c' n x b->fM c' n' x' b->n=n')
  (Kf:∀n xs,(n,Obj.box xs)∈D->∀a∈xs,∀m∈bN a,σ (db m)≠ .jZ\/uN D m)
  (hK:∀b,c.K b->c'.K b) (XH:∀b,c'.K b->c.K b\/j5 (uN D) σ c b\/w.heap.size<=b) (Ih:∀b,c'.K b->b<w'.heap.size)
  (hW:∀b,b<w.heap.size->¬j5 (uN D) σ c b->w'.heap[b]? =w.heap[b]?) (fZ:w.heap.size<=w'.heap.size) (QJ:w'.os=w.os) (YX:w'.tape=w.tape) (YR:w'.output=w.output)
  (zC:jh E w' c' s v) (B6:∀n∈cM s,σ (db n)≠ .jZ\/uN D n):
  Ok E (wr σ (ka D++dw o s)) w' c'/\fC E (wr σ (ka D++dw o s)) (a.put o.dst v) w' c'/\ot σ c w (wr σ (ka D++dw o s)) c' w':=by
 rw[Rp];obtain⟨d1,d2⟩:=abh D σ;let σ1:=wr σ (ka D);obtain⟨s1,s2,s3⟩:=rY σ1 o s;have key:∀m,(wr σ1 (dw o s) (db m)=σ (db m)/\¬uN D m)\/∃x,(m,x)∈D/\wr σ1 (dw o s) (db m)= .o x:=λm=>by rw[s3];exact d1 m
 have iy:∀m,(σ (db m)≠ .jZ\/uN D m)->wr σ1 (dw o s) (db m)≠ .jZ:=by
  intro m hm;rcases key m with ⟨h1,h2⟩|⟨x,_,h2⟩
  ·rw[h1];exact hm.resolve_right h2
  ·rw[h2];simp
 have get:∀m x,uN D m->wr σ1 (dw o s) (db m)= .o x->(m,x)∈D:=by
  intro m x hm hx;rcases key m with ⟨_,h2⟩|⟨y,h1,h2⟩
  ·exact cS hm h2
  ·rw[h2]at hx;cases hx;exact h1
 have hh:=cj.change (σ':=wr σ1 (dw o s)) (w':=w') (c':=c') (uN D) (λm hm=>(key m).elim (λh=>h.1) (λ⟨x,h1,_⟩=>cS ⟨x,h1⟩ hm)) (λm hm=>iy m (.inl hm)) hA hW fZ hK XH Ih
  (λm x hm ho=>mS m x (get m x hm ho)) (λm x b hm ho hf=>pV m x b (get m x hm ho) hf) (λm x m' x' b hm xT ho vt hf vn=>Uq m x m' x' b (get m x hm ho) (get m' x' xT vt) hf vn)
  (λm xs hm ho y hy n kG=>iy n (Kf m xs (get m _ hm ho) y hy n kG)) QJ YX YR
 refine⟨hh.1, ?_,hh.2⟩
 refine dI.change cj hh.2 hA (λm hm=>iy m (.inl hm)) o v (λn kG=>by rw[s1 n kG];exact d2 n) (λd ho=>⟨hd d ho, ?_, ?_⟩)
 ·rw[s2 d ho];exact zC
 ·rw[s2 d ho];intro n kG;exact iy n (B6 n kG)
theorem Mg(cj:Ok E σ w c)(dI:fC E σ a w c){o:fB}(hd:∀d,o.dst=ah d->d<a.tmps.size){D:az (aC×Obj)}{s:SV}{v:bn}{w':bJ}{c':e9}
  (hA:jz σ c c')
  (mS:∀n x,(n,x)∈D->pR E w' c' n x)
  (pV:∀n x b,(n,x)∈D->fM c' n x b->(j5 (uN D) σ c b\/w.heap.size<=b)/\¬c'.K b)
  (Uq:∀n x n' x' b,(n,x)∈D->(n',x')∈D->fM c' n x b->fM c' n' x' b->n=n')
  (Kf:∀n xs,(n,Obj.box xs)∈D->∀a∈xs,∀m∈bN a,σ (db m)≠ .jZ\/uN D m)
  (hK:∀b,c.K b->c'.K b) (XH:∀b,c'.K b->c.K b\/j5 (uN D) σ c b\/w.heap.size<=b) (Ih:∀b,c'.K b->b<w'.heap.size)
  (hW:∀b,b<w.heap.size->¬j5 (uN D) σ c b->w'.heap[b]? =w.heap[b]?) (fZ:w.heap.size<=w'.heap.size) (QJ:w'.os=w.os) (YX:w'.tape=w.tape) (YR:w'.output=w.output)
  (zC:jh E w' c' s v) (B6:∀n∈cM s,σ (db n)≠ .jZ\/uN D n)
  (hr:(execOp a.eval o).run P w= .ok (.value v) w'):gV P E σ a w c o (ka D++dw o s):=by intro K Q hQ;obtain⟨h1,h2,h3⟩:=JO cj dI hd hA mS pV Uq Kf hK XH Ih hW fZ QJ YX YR zC B6;exact yU hr (hQ v w' c' h1 h2 h3 hA.w)
def CN(σ:St)(c:e9)(m:ay aC)(u:bn):CV->Prop
 | .l e ys=>(m=aj/\ys=[]/\u= .slice aj 0 0)\/∃nm,m=ah nm/\u=lO (c.P nm)/\σ (db nm)= .o (.row e ai ys)
 |x=>Sc u x
def F9(L:az aC):az (aC×Obj):=L.map λn=>(n, .dead)
theorem Di(L:az aC):oh L=ka (F9 L):=by unfold oh ka F9;rw[kl];rfl
theorem Yv{k:Ck}{x:AV}{cv:CV}{ws:az (aC×eR)}(h:(JW ai k x).val σ=ah (cv,ws)):
  cv.kd=k/\∃m:ay aC,ws=oh m.toList/\(∀nm,m=ah nm->∃ob,σ (db nm)= .o ob)/\∀u,eL E w c x u->CN σ c m u cv:=by
 have pl:plain [k]=ai->cv.kd=k/\∃m:ay aC,ws=oh m.toList/\(∀nm,m=ah nm->∃ob,σ (db nm)= .o ob)/\∀u,eL E w c x u->CN σ c m u cv:=by
  intro hp;have kd1:cv.kd=k/\ws=[]:=by
   cases k<;>cases x<;>simp[JW,plain]at h hp<;>first
    |(obtain⟨rfl,rfl⟩:=h;exact⟨rfl,rfl⟩)
    |(split at h<;>simp at h;rename_i hk;subst hk;obtain⟨rfl,rfl⟩:=h;exact⟨rfl,rfl⟩)
  refine⟨kd1.1,aj,kd1.2,λnm h=>(by cases h),λu hu=> ?_⟩
  obtain⟨_,h2,h3,_⟩:=AD hp h hu;cases cv<;>first|exact h2|simp[uz]at h3
 cases k with
 |i=>exact pl rfl
 |b=>exact pl rfl
 |s=>exact pl rfl
 |o=>cases x<;>simp[JW]at h
 |l e=>
  cases x with
  |nl=>obtain⟨rfl,rfl⟩:=bV (aF h);exact⟨rfl,aj,rfl,λnm h=>(by cases h),λu hu=> .inl ⟨rfl,rfl,hu⟩⟩
  |sh e' xs=>simp[JW]at h
  |own n=>
   obtain⟨ob,hg,h⟩:=Rd.bind_some h;have hg:=dy hg;cases ob with
   |row e' uv xs=>obtain⟨h1,h⟩:=cR h;obtain⟨rfl,rfl⟩:=bV (aF h);simp only[aK]at h1;have:=aU h1.1;subst this;obtain rfl:=h1.2;exact⟨rfl,ah n,rfl,λnm h=>(by cases h;exact⟨_,hg⟩),λu hu=> .inr ⟨n,rfl,hu,hg⟩⟩
   |fV=>simp at h
   |_=>simp at h
  |_=>simp[JW]at h
theorem TZ:∀{ks:az Ck} {xs:az AV} {cs:az CV} {ws:az (aC×eR)} (h:(AE ai ks xs).val σ=ah (cs,ws)),cs.map CV.kd=ks/\xs.length=ks.length/\∃(L:az aC) (M:aC->ay aC),ws=oh L/\
  (∀nm∈L,∃ob,σ (db nm)= .o ob)/\(∀j nm,M j=ah nm->nm∈L)/\(L.Nodup->∀i j nm,M i=ah nm->M j=ah nm->i=j)/\
  ∀(vals:dp bn),gf E w c vals xs->∀(q:aC) (x:CV),cs[q]? =ah x->∃u:bn,vals[q]? =ah u/\CN σ c (M q) u x:=by
 intro ks;induction ks with
 |nil=>
  intro xs cs ws h;cases xs with
  |nil=>obtain⟨rfl,rfl⟩:=bV (aF h);exact⟨rfl,rfl,[],λ_=>aj,rfl,λnm h=>(by cases h),λj nm h=>(by cases h),λ_ i j nm h=>(by cases h),λ_ _ q x hq=>by simp at hq⟩
  |cons=>simp[AE]at h
 |cons k ks ih=>
  intro xs cs ws h;cases xs with
  |nil=>simp[AE]at h
  |cons x xs=>
   obtain⟨⟨cv,w1⟩,h1,h⟩:=Rd.bind_some h;obtain⟨⟨cr,w2⟩,h2,h⟩:=Rd.bind_some h;obtain⟨rfl,rfl⟩:=bV (aF h);obtain⟨e1,m,rfl,e2,e3⟩:=Yv (E:=E) (w:=w) (c:=c) h1;obtain⟨i1,i2,L,M,rfl,i4,i5,i6,i7⟩:=ih h2;refine⟨by simp[e1,i1],by simp[i2],m.toList++L,λj=>match j with|0=>m|j+1=>M j,by simp[oh], ?_, ?_, ?_, ?_⟩
   ·intro nm hnm;rcases bf.1 hnm with h|h
    ·exact e2 nm (by simpa using h)
    ·exact i4 nm h
   ·intro j nm hj;cases j with
    |zero=>exact bW _ (by simpa using hj)
    |succ j=>exact bO _ (i5 j nm hj)
   ·intro Kh i j nm hi hj;obtain⟨n1,n2,n3⟩:=eB.1 Kh;cases i with
    |zero=>
     cases j with
     |zero=>rfl
     |succ j=>exact cS rfl (n3 nm (by simpa using hi) nm (i5 j nm hj))
    |succ i=>
     cases j with
     |zero=>exact cS rfl (n3 nm (by simpa using hj) nm (i5 i nm hi))
     |succ j=>rw[i6 n2 i j nm hi hj]
   ·intro vals hv q y hq;cases q with
    |zero=>cases hq;obtain⟨u,hu,ha⟩:=hv.2 0 x rfl;exact⟨u,hu,e3 u ha⟩
    |succ q=>
     have OQ:gf E w c (vals.extract 1 vals.size) xs:=by
      refine⟨by simp;have:=hv.1;simp at this;omega,λj b hj=> ?_⟩
      obtain⟨u,hu,hb⟩:=hv.2 (j+1) b hj;refine⟨u, ?_,hb⟩
      have:=(dY.1 hu).1;rw[eh,bB (by omega),iY];exact hu
     obtain⟨u,r1,r2⟩:=i7 _ OQ q y hq;refine⟨u, ?_,r2⟩
     rw[eh]at r1;split at r1
     ·rw[iY];exact r1
     ·cases r1
theorem L3{k:Ck}{x:AV}{cv:CV}{ws:az (aC×eR)}(cj:Ok E σ w c)(h:(JW ak k x).val σ=ah (cv,ws)):cv.kd=k/\ws=[]/\∀u,eL E w c x u->dg E w c.K u cv:=by
 have pl:plain [k]=ai->cv.kd=k/\ws=[]/\∀u,eL E w c x u->dg E w c.K u cv:=by
  intro hp;have kd1:cv.kd=k/\ws=[]:=by
   cases k<;>cases x<;>simp[JW,plain]at h hp<;>first
    |(obtain⟨rfl,rfl⟩:=h;exact⟨rfl,rfl⟩)
    |(split at h<;>simp at h;rename_i hk;subst hk;obtain⟨rfl,rfl⟩:=h;exact⟨rfl,rfl⟩)
  refine⟨kd1.1,kd1.2,λu hu=> ?_⟩
  obtain⟨_,h2,h3,_⟩:=AD hp h hu;exact kM h3 h2
 cases k with
 |i=>exact pl rfl
 |b=>exact pl rfl
 |s=>exact pl rfl
 |o=>cases x<;>simp[JW]at h
 |l e=>
  cases x with
  |nl=>obtain⟨rfl,rfl⟩:=bV (aF h);exact⟨rfl,rfl,λu hu=>by rw[show u=_ from hu];exact .nl _ _ _⟩
  |sh e' xs=>obtain⟨h1,h⟩:=cR h;obtain⟨rfl,rfl⟩:=bV (aF h);simp only[aK]at h1;have:=aU h1.1;subst this;exact⟨rfl,rfl,λu hu=>hu⟩
  |own n=>
   obtain⟨ob,hg,h⟩:=Rd.bind_some h;have hg:=dy hg;cases ob with
   |row e' uv xs=>obtain⟨h1,h⟩:=cR h;simp at h
   |fV e' xs=>
    obtain⟨h1,h⟩:=cR h;obtain⟨rfl,rfl⟩:=bV (aF h);simp only[aK]at h1;have:=aU h1.1;subst this;refine⟨rfl,rfl,λu hu=> ?_⟩
    have hu:u=lO (c.P n):=hu;rw[hu];exact(cj.obj n _ hg).1
   |_=>simp at h
  |_=>simp[JW]at h
theorem JX(cj:Ok E σ w c):∀{ks:az Ck} {xs:az AV} {cs:az CV} {ws:az (aC×eR)} (h:(AE ak ks xs).val σ=ah (cs,ws)),cs.map CV.kd=ks/\xs.length=ks.length/\ws=[]/\
  ∀(vals:dp bn),gf E w c vals xs->∀(q:aC) (x:CV),cs[q]? =ah x->∃u:bn,vals[q]? =ah u/\dg E w c.K u x:=by
 intro ks;induction ks with
 |nil=>
  intro xs cs ws h;cases xs with
  |nil=>obtain⟨rfl,rfl⟩:=bV (aF h);exact⟨rfl,rfl,rfl,λ_ _ q x hq=>by simp at hq⟩
  |cons=>simp[AE]at h
 |cons k ks ih=>
  intro xs cs ws h;cases xs with
  |nil=>simp[AE]at h
  |cons x xs=>
   obtain⟨⟨cv,w1⟩,h1,h⟩:=Rd.bind_some h;obtain⟨⟨cr,w2⟩,h2,h⟩:=Rd.bind_some h;obtain⟨rfl,rfl⟩:=bV (aF h);obtain⟨e1,e2,e3⟩:=L3 cj h1;obtain⟨i1,i2,i3,i7⟩:=ih h2;refine⟨by simp[e1,i1],by simp[i2],by rw[e2,i3];rfl,λvals hv q y hq=> ?_⟩
   cases q with
   |zero=>cases hq;obtain⟨u,hu,ha⟩:=hv.2 0 x rfl;exact⟨u,hu,e3 u ha⟩
   |succ q=>
    have OQ:gf E w c (vals.extract 1 vals.size) xs:=by
     refine⟨by simp;have:=hv.1;simp at this;omega,λj b hj=> ?_⟩
     obtain⟨u,hu,hb⟩:=hv.2 (j+1) b hj;refine⟨u, ?_,hb⟩
     have:=(dY.1 hu).1;rw[eh,bB (by omega),iY];exact hu
    obtain⟨u,r1,r2⟩:=i7 _ OQ q y hq;refine⟨u, ?_,r2⟩
    rw[eh]at r1;split at r1
    ·rw[iY];exact r1
    ·cases r1
end
end Go.FG

namespace Go.FG
section
variable {P:c6} {E:fS} {σ:St} {a:Act} {w:bJ} {c:e9} {o:fB} {nm:aC} {e:sV}
structure Inv (E:fS) (σ:St) (w:bJ) (c:e9) (ex:aY) (ks:az Ck) (vals:dp bn) (z:aQ) (N:aC->aC->ay aC) (S:az aC):Prop where
 size:vals.size=z.length*ks.length
 sh:∀y∈z,y.map CV.kd=ks
 inS:∀i j nm,N i j=ah nm->nm∈S
 inj:∀i j i' j' nm,N i j=ah nm->N i' j'=ah nm->i=i'/\j=j'
 cell:∀(i:aC) (y:az CV) (j:aC) (x:CV),z[i]? =ah y->y[j]? =ah x->∃u:bn,vals[i*ks.length+j]? =ah u/\(if ex=ai then CN σ c (N i j) u x else dg E w c.K u x)
theorem Inv.set{ex:aY}{ks:az Ck}{vals:dp bn}{z:aQ}{N:aC->aC->ay aC}{S:az aC}(h:Inv E σ w c ex ks vals z N S){i0:aC}(hi:i0<z.length){cs:az CV}{vs:dp bn}(hk:cs.map CV.kd=ks)(Ut:vs.size=ks.length)
  {M:aC->ay aC} {L:az aC} (hM:∀j nm,M j=ah nm->nm∈L) (hMi:∀i j nm,M i=ah nm->M j=ah nm->i=j) (hd:∀nm∈L,nm∉S)
  (hc:∀(q:aC) (x:CV),cs[q]? =ah x->∃u:bn,vs[q]? =ah u/\(if ex=ai then CN σ c (M q) u x else dg E w c.K u x)):
  Inv E σ w c ex ks (er vals (i0*ks.length) vs.toList) (z.set i0 cs) (λi j=>if i=i0 then M j else N i j) (S++L):=by
 have h1:(i0+1)*ks.length<=z.length*ks.length:=b_ _ hi;rw[dn]at h1;have hb:i0*ks.length+vs.toList.length<=vals.size:=by rw[h.size,show vs.toList.length=ks.length from Ut];omega
 refine⟨by rw[fa hb,cO];exact h.size, ?_, ?_, ?_, ?_⟩
 ·intro y hy;rcases jE hy with hy|hy
  ·exact h.sh y hy
  ·rw[hy];exact hk
 ·intro i j nm hn;replace hn:(if i=i0 then M j else N i j)=ah nm:=hn;split at hn
  ·exact bO _ (hM j nm hn)
  ·exact bW _ (h.inS i j nm hn)
 ·intro i j i' j' nm hn kG;replace hn:(if i=i0 then M j else N i j)=ah nm:=hn;replace kG:(if i'=i0 then M j' else N i' j')=ah nm:=kG;split at hn
  ·rename_i e1;split at kG
   ·rename_i e2;exact⟨e1.trans e2.symm,hMi j j' nm hn kG⟩
   ·exact cS (h.inS i' j' nm kG) (hd nm (hM j nm hn))
  ·split at kG
   ·exact cS (h.inS i j nm hn) (hd nm (hM j' nm kG))
   ·exact h.inj i j i' j' nm hn kG
 ·intro i y j x hy hx;rw[Rt]at hy;rw[gz hb,show vs.toList.length=ks.length from Ut];by_cases Kd:i0=i
  ·subst Kd;rw[bB rfl,bB hi]at hy;cases hy;have hj:j<ks.length:=by rw[<-hk,bR];exact(aT.1 hx).1
   obtain⟨u,hu,hr⟩:=hc j x hx;refine⟨u, ?_,by simpa using hr⟩
   rw[bB (by omega),cZ,<-hu];congr 1;omega
  ·rw[bH Kd]at hy;obtain⟨u,hu,hr⟩:=h.cell i y j x hy hx;have hj:j<ks.length:=by rw[<-h.sh y (aR hy),bR];exact(aT.1 hx).1
   refine⟨u, ?_,by rw[show(if i=i0 then M j else N i j)=N i j from bH (λe=>Kd e.symm)];exact hr⟩
   rw[bH ?_];exact hu;rcases Rv Kd with jb|hgt
   ·have:(i0+1)*ks.length<=i*ks.length:=b_ _ jb;rw[dn]at this;omega
   ·have:(i+1)*ks.length<=i0*ks.length:=b_ _ hgt;rw[dn]at this;omega
theorem Qq(cj:Ok E σ w c)(dI:fC E σ a w c){ex:aY}{ks:az Ck}(k8:0<ks.length):∀(ps:az (aC×dx)) (z z':aQ) (ws:az (aC×eR)),(L0 ex ks ps z).val σ=ah (z',ws)->
  z'.length=z.length/\∃L,ws=oh L/\(∀nm∈L,∃ob,σ (db nm)= .o ob)/\∀vals N S,(S++L).Nodup->Inv E σ w c ex ks vals z N S->
   ∃i9 N',pC (λi=>ah (i*ks.length,ks.length)) vals (ps.map λ(i,x)=>(i,a.eval x))=ah i9/\Inv E σ w c ex ks i9 z' N' (S++L):=by
 intro ps;induction ps with
 |nil=>intro z z' ws h;obtain⟨rfl,rfl⟩:=bV (aF h);exact⟨rfl,[],rfl,λnm h=>(by cases h),λvals N S _ hi=>⟨vals,N,rfl,by rw[cu];exact hi⟩⟩
 |cons p r ih=>
  obtain⟨i0,x⟩:=p;intro z z' ws h;obtain⟨v,h1,h⟩:=Rd.bind_some h;obtain⟨QK,hkv⟩:=mi dI h1;cases v with
  |v g ys=>
   obtain⟨h2,h⟩:=cR h;have h2:=cL h2;obtain⟨⟨cs,w1⟩,h3,h⟩:=Rd.bind_some h;obtain⟨⟨z1,w2⟩,h4,h⟩:=Rd.bind_some h;obtain⟨rfl,rfl⟩:=bV (aF h);have pD:=qi.cells QK
   have JW:cs.map CV.kd=ks/\ys.length=ks.length/\∃(L:az aC) (M:aC->ay aC),w1=oh L/\(∀nm∈L,∃ob,σ (db nm)= .o ob)/\(∀j nm,M j=ah nm->nm∈L)/\(L.Nodup->∀i j nm,M i=ah nm->M j=ah nm->i=j)/\
     ∀(q:aC) (x:CV),cs[q]? =ah x->∃u:bn,(a.eval ‹dx›).cells[q]? =ah u/\(if ex=ai then CN σ c (M q) u x else dg E w c.K u x):=by
    cases ex with
    |true=>obtain⟨q1,q2,L,M,q3,q4,q5,q6,q7⟩:=TZ (E:=E) (w:=w) (c:=c) h3;exact⟨q1,q2,L,M,q3,q4,q5,q6,λq x hq=>by simpa using q7 _ pD q x hq⟩
    |false=>obtain⟨q1,q2,q3,q4⟩:=JX cj h3;exact⟨q1,q2,[],λ_=>aj,q3,λnm h=>(by cases h),λj nm h=>(by cases h),λ_ i j nm h=>(by cases h),λq x hq=>by simpa using q4 _ pD q x hq⟩
   obtain⟨q1,q2,L,M,rfl,q4,q5,q6,q7⟩:=JW;obtain⟨i1,L2,rfl,i3,i4⟩:=ih _ _ _ h4;rw[cO]at i1;refine⟨i1,L++L2,by simp[oh],λnm hn=>(bf.1 hn).elim (q4 nm) (i3 nm),λvals N S Kh hinv=> ?_⟩
   have alx:((S++L)++L2).Nodup:=by rw[bU];exact Kh
   obtain⟨n1,n2,n3⟩:=eB.1 alx;obtain⟨m1,m2,m3⟩:=eB.1 n1;have Ut:(a.eval x).cells.size=ks.length:=by rw[pD.1,q2]
   have alq:=hinv.set (i0:=i0) (by omega) q1 Ut q5 (q6 m2) (λnm hn hs=>m3 nm hs nm hn rfl) q7;obtain⟨i9,N',f1,f2⟩:=i4 _ _ _ alx alq;refine⟨i9,N', ?_,by rw[<-bU];exact f2⟩
   have h1:(i0+1)*ks.length<=z.length*ks.length:=b_ _ h2;rw[dn,<-hinv.size]at h1;simp only[eC,pC];rw[bH (by simp[Ut];omega)];have:=Ge (off:=i0*ks.length) (vs:=(a.eval x).cells) (cells:=vals) (by omega);rw[<-f1];exact lH (λq=>pC (λi=>ah (i*ks.length,ks.length)) q _) this
  |j_=>simp at h
  |un=>simp at h
theorem D8{t el n:aC}{inf:Ls}{z:bn}{ks:az Ck}{ps:dp (aC×bn)}{cells:dp bn}(hu:P.underlying t=ah (.slice el))(hi:P.info? el=ah inf)(fZ:inf.size=ks.length)(hz:inf.zero=ah z)(hzc:z.cells=(ks.map iH).toArray)
  (h24:n*ks.length<=16777216) (hf:pC (λi=>ah (i*ks.length,ks.length)) (madeCells (ks.map iH).toArray (n*ks.length)) ps.toList=ah cells):
  (Bj t n ps).run P w= .ok (.slice (ah (ad w.heap.size 0)) n n) (w.alloc (.cells cells el)):=by
 have au6:¬(n*ks.length>2^24):=by omega
 by_cases h0:n*ks.length=0
 ·have e0:(Array.range (n*ks.length)).map (λi=>(#[]:dp bn)[i%(#[]:dp bn).size]!)=madeCells (ks.map iH).toArray (n*ks.length):=by rw[h0];simp[madeCells,Array.range_zero']
  simp only[Bj,cq,run_underlying hu,bG,sizeOf,typeInfo,program,ni,hi,fZ,cU,h0,if_true,m8];rw[h0]at e0 hf;rw[e0,hf];simp only[newRow,newObj,cq,ni,bG,cU];rfl
 ·have e0:(Array.range (n*ks.length)).map (λi=>z.cells[i%z.cells.size]!)=madeCells (ks.map iH).toArray (n*ks.length):=by rw[hzc];rfl
  simp only[Bj,cq,run_underlying hu,bG,sizeOf,typeInfo,program,ni,hi,fZ,au6,if_false,cU,h0,zeroValue,hz,m8];rw[e0,hf];simp only[newRow,newObj,cq,ni,bG,cU];rfl
theorem qI:∀{l:az aC},tI l=ai->l.Nodup
 |[],_=> .nil
 |n::r,h=>by
  simp only[tI,aK,du]at h;refine kE.2 ⟨λhm=> ?_,qI h.2⟩;have:mC n r=true:=by
   have:=h.1;clear h;induction r with
   |nil=>cases hm
   |cons m r ih=>
    rcases cB.1 hm with rfl|hm
    ·simp[mC]
    ·simp only[mC,iF]at this⊢;rw[ih hm this.2];simp
  rw[this]at h;cases h.1
theorem rP{α β:Type}{f:α->β}:∀{l:az α},(l.map f).Nodup->l.Nodup
 |[],_=> .nil
 |x::l,h=>by
  rw[eC,kE]at h;exact kE.2 ⟨λhm=>h.1 (cw.2 ⟨x,hm,rfl⟩),rP h.2⟩
theorem YF{ks:az Ck}(hf:flat E ks=ai){e:aC}(hm:Ck.l e∈ks):∃t,E.ty e=ah t/\plain t.ks=true:=by
 have h:=bA.1 hf _ hm;replace h:(match E.ty e with|some ti=>plain ti.ks|none=>ak)=true:=h;cases ht:E.ty e with
 |none=>rw[ht]at h;cases h
 |some t=>rw[ht]at h;exact⟨t,rfl,h⟩
theorem Rc(cj:Ok E σ w c){n e:aC}{ex:aY}{xs:aQ}(hg:σ (db n)= .o (.row e ex xs)){t:TI}(ht:E.ty e=ah t)(hp:plain t.ks=ai):
  (c.P n).sz=t.ks.length/\(∀y∈xs,y.map CV.kd=t.ks)/\jg w (c.P n) xs (λ_ _ u x=>Sc u x):=by
 obtain⟨⟨t2,q1,q2,q3⟩,q4,_⟩:=cj.obj n _ hg;obtain rfl:t=t2:=aF (ht.symm.trans q1);refine⟨q2,q3,q4.frame (λ_=>rfl) (λi j y x u hi hj hr=> ?_)⟩
 have hl:=im hp (q3 y (aR hi)) hj;split at hr
 ·exact uL hr hl
 ·exact pq hr hl
theorem TT(cj:Ok E σ w c){ks:az Ck}(hf:flat E ks=ai){m:ay aC}{G:aC->aC->Pl}{i j:aC}(hG:G i j=match m with|some n=>c.P n|none=>MJ E ks i j){u:bn}{x:CV}(hx:ks[j]? =ah x.kd){w':bJ}(hw:∀b,b<w.heap.size->(∃n,m=ah n/\b=(c.P n).blk)->w'.heap[b]? =w.heap[b]?)(h:CN σ c m u x):XC E w' G i j u x:=by
 cases x with
 |l e ys=>
  obtain⟨t,ht,hp⟩:=YF hf (aR hx);rcases h with ⟨rfl,rfl,rfl⟩|⟨n,rfl,rfl,hg⟩
  ·refine⟨by rw[hG];rfl,t,ht,hp, ?_,λy hy=>(by cases hy),⟨by rw[hG];rfl,λ_=>⟨rfl,by rw[hG];rfl⟩,λhn=>by rw[hG]at hn;cases hn⟩⟩
   rw[hG];show(match ks[j]? with|some (.l e)=>(match E.ty e with|some t=>t.ks.length|none=>0)|_=>0)=_;rw[hx];simp only[CV.kd,ht]
  ·obtain⟨q1,q2,q3⟩:=Rc cj hg ht hp;refine⟨by rw[hG],t,ht,hp,by rw[hG];exact q1,q2, ?_⟩
   rw[hG];refine q3.frame (λhn=>hw _ (wW.lt cj ⟨n,_,hg, .inl ⟨hn,rfl⟩⟩) ⟨n,rfl,rfl⟩) (λ_ _ _ _ _ _ _ h=>h)
 |i=>exact h
 |b=>exact h
 |s=>exact h
theorem Fl(hE:eH P E)(cj:Ok E σ w c)(dI:fC E σ a w c)(hd:∀d,o.dst=ah d->d<a.tmps.size){t n:aC}{ps:dp (aC×dx)}(ho:o.op= .buildSlice t n ps)(h:(l_ E nm o).val σ=ah e)(hc:e.cond=ai):gV P E σ a w c o e.ws:=by
 simp only[l_,ho]at h;obtain⟨ti,h1,h⟩:=Rd.bind_some h;have h1:=dZ h1;split at h
 ·rename_i el uw B6;obtain⟨te,h2,h⟩:=Rd.bind_some h;have h2:=dZ h2;obtain⟨AL,h⟩:=cR h;obtain⟨ex0,_,h⟩:=Rd.bind_some h;obtain⟨⟨xs,ws⟩,h3,h⟩:=Rd.bind_some h;obtain⟨u,h4,h⟩:=Rd.bind_some h;obtain⟨hf,jb⟩:=kF h4;obtain rfl:=aF h;simp only[aK]at hc;obtain⟨h24,Kh⟩:=hc;have h24:=cL h24;have hu:=pd hE h1 uw B6;obtain⟨inf,hi,fZ,_,k8,hz⟩:=hE.info el te h2;obtain⟨z,Lb,Fj,_⟩:=hz AL;have QE:(ex0&&flat E te.ks)=ai->flat E te.ks=true:=λh=>by simp only[aK]at h;exact h.2
  generalize (ex0&&flat E te.ks)=ex at h3 QE⊢;obtain⟨hlen,L,rfl,hL,Up⟩:=Qq (c:=c) cj dI k8 ps.toList _ _ _ h3;have Kh:L.Nodup:=by have:=qI Kh;unfold oh at this;rw[kl]at this;exact rP this
  obtain⟨vals,N,alh,hinv⟩:=Up (madeCells (te.ks.map iH).toArray (n*te.ks.length)) (λ_ _=>aj) [] (by simpa using Kh)
   ⟨by rw[size_madeCells];simp[aN],yW AL n,λi j nm h=>(by cases h),λi j i' j' nm h=>(by cases h),λi y j x hy hx=>by
    obtain⟨fP,k,hk,rfl⟩:=uM hy hx;refine⟨iH k,lP fP hk, ?_⟩
    have hko:=bA.1 AL k (aR hk);split
    ·cases k with
     |l e=>exact .inl ⟨rfl,rfl,rfl⟩
     |o=>cases hko
     |s=>exact⟨rfl,bk _⟩
     |_=>exact⟨rfl,trivial⟩
    ·exact Np hko⟩
  rw[gG]at hinv;have hr:=D8 (P:=P) (w:=w) (n:=n) (ps:=ps.map λ(i,x)=>(i,a.eval x)) hu hi fZ Lb Fj h24 (by rw[BC];exact alh);have My:xs.length=n:=by rw[hlen];simp[aN]
  let g:aC->aC->Pl:=λi j=>match N i j with|some m=>c.P m|none=>MJ E te.ks i j
  let c':e9:=⟨λm=>if m=nm then⟨ak,w.heap.size,0,n,n,te.ks.length⟩else c.P m,λm=>if m=nm then g else c.G m,c.K⟩
  have hP:c'.P nm=⟨ak,w.heap.size,0,n,n,te.ks.length⟩:=bB rfl;have hG:c'.G nm=g:=bB rfl;have hA:jz σ c c':=λm hm=>by
   have:m≠nm:=by rintro rfl;rcases hm with h|h;exact h hf;omega
   exact⟨bH this,bH this⟩
  have gN:∀i j,(g i j).nil=ak->∃m ob,N i j=ah m/\g i j=c.P m/\m∈L/\σ (db m)= .o ob:=by
   intro i j hn;cases hm:N i j with
   |none=>simp only[g,hm]at hn;cases hn
   |some m=>obtain⟨ob,mS⟩:=hL m (hinv.inS i j m hm);exact⟨m,ob,rfl,by simp only[g,hm],hinv.inS i j m hm,mS⟩
  have mU:∀i j,ex=ai->gp xs i j->(g i j).nil=ak->∃m el2 ys,N i j=ah m/\g i j=c.P m/\m∈L/\σ (db m)= .o (.row el2 ai ys)/\(c.P m).nil=false:=by
   rintro i j hex ⟨y,x,hy,hx,hl⟩ hn;obtain⟨m,ob,q1,q2,q3,q4⟩:=gN i j hn;obtain⟨u,_,hr⟩:=hinv.cell i y j x hy hx;rw[bB hex,q1]at hr;cases x with
   |l e2 ys=>
    rcases hr with ⟨h,_⟩|⟨m',h,_,hg⟩
    ·cases h
    ·cases h;exact⟨m,e2,ys,q1,q2,q3,hg,by rw[<-q2];exact hn⟩
   |i=>simp[uz]at hl
   |b=>simp[uz]at hl
   |s=>simp[uz]at hl
  have Uv:∀b,b<w.heap.size->(w.alloc (.cells vals el)).heap[b]? =w.heap[b]? :=λb hb=>heap_alloc_old w _ b hb;have mem:∀m x,(m,x)∈F9 L++[(nm,Obj.row el ex xs)]->(m∈L/\x= .dead)\/(m=nm/\x= .row el ex xs):=by
   intro m x hm;rcases bf.1 hm with hm|hm
   ·unfold F9 at hm;obtain⟨q,hq,h⟩:=cw.1 hm;cases h;exact .inl ⟨hq,rfl⟩
   ·rw[aZ]at hm;cases hm;exact .inr ⟨rfl,rfl⟩
  have hws:oh L++(db nm,eR.o (.row el ex xs))::dw o (.v ak [.own nm])=ka (F9 L++[(nm,Obj.row el ex xs)])++dw o (.v ak [.own nm]):=by rw[Di];unfold ka;simp
  show gV P E σ a w c o (oh L++(db nm,eR.o (.row el ex xs))::dw o (.v ak [.own nm]));rw[hws];refine Mg cj dI hd (c':=c') (w':=w.alloc (.cells vals el)) (v:= .slice (ah (ad w.heap.size 0)) n n) hA ?_ ?_ ?_ ?_ (λ_ h=>h) (λ_ h=> .inl h) (λb hb=>js (cj.lt b hb) (by simp)) (λb hb _=>Uv b hb) (by simp) rfl rfl rfl ?_ ?_ ?_
  ·intro m x hm;rcases mem m x hm with ⟨_,rfl⟩|⟨rfl,rfl⟩
   ·trivial
   ·refine⟨⟨te,h2,by rw[hP],hinv.sh⟩, ?_,λhex=> ?_⟩
    ·rw[hP,hG];refine⟨My.symm,λhn=>(by cases hn),λ_=>⟨vals,nV.alloc w _ el,cJ _, ?_, ?_,λi y j x hy hx=> ?_⟩⟩
     ·show n<=2^63-1;have:n*1<=n*te.ks.length:=Nat.mul_le_mul_left _ k8;omega
     ·rw[hinv.size,My];simp
     ·obtain⟨u,sq,Fc⟩:=hinv.cell i y j x hy hx;refine⟨u,by simpa using sq, ?_⟩
      split at Fc
      ·rename_i hex;rw[bB hex];refine TT cj (QE hex) rfl ?_ (λb hb _=>Uv b hb) Fc;rw[<-hinv.sh y (aR hy),bI,hx];rfl
      ·rename_i hex;rw[bH hex];exact Fc.frame (λb hb=>Uv b (cj.lt b hb)) (λ_ h=>h)
    ·rw[hP,hG];refine⟨λi j hh hn _=> ?_,λi j i' j' hh B5 hn kG hbk=> ?_⟩
     ·obtain⟨m',e2,ys,_,q2,_,q4,q5⟩:=mU i j hex hh hn;have:(c.P m').blk<w.heap.size:=wW.lt cj ⟨m',_,q4, .inl ⟨q5,rfl⟩⟩;rw[q2];show(c.P m').blk≠w.heap.size;omega
     ·obtain⟨m1,e1,y1,p1,p2,_,p4,p5⟩:=mU i j hex hh hn;obtain⟨m2,e2,y2,r1,r2,_,r4,r5⟩:=mU i' j' hex B5 kG;rw[p2,r2]at hbk;have:=cj.sep m1 _ m2 _ _ p4 r4 (.inl ⟨p5,rfl⟩) (.inl ⟨r5,hbk⟩);subst this;exact hinv.inj i j i' j' m1 p1 r1
  ·intro m x b hm pV;rcases mem m x hm with ⟨_,rfl⟩|⟨rfl,rfl⟩
   ·exact pV.elim
   ·rcases pV with ⟨_,rfl⟩|⟨hex,i,j,hh,hn,rfl⟩
    ·rw[hP];exact⟨.inr (cJ _),λhk=>by have:=cj.lt _ hk;exact cS this (bg _)⟩
    ·rw[hG]at hn⊢;obtain⟨m',e2,ys,_,q2,q3,q4,q5⟩:=mU i j hex hh hn;rw[q2];refine⟨.inl ⟨m',_,⟨.dead,bW _ (cw.2 ⟨m',q3,rfl⟩)⟩,q4, .inl ⟨q5,rfl⟩⟩,cj.kk m' _ _ q4 (.inl ⟨q5,rfl⟩)⟩
  ·intro m x m' x' b hm xT pV Uh;rcases mem m x hm with ⟨_,rfl⟩|⟨rfl,rfl⟩
   ·exact pV.elim
   ·rcases mem m' x' xT with ⟨_,rfl⟩|⟨rfl,rfl⟩
    ·exact Uh.elim
    ·rfl
  ·intro m zs hm;rcases mem m _ hm with ⟨_,h⟩|⟨_,h⟩<;>cases h
  ·show _=lO (c'.P nm);rw[hP];rfl
  ·intro m hm;have:m=nm:=by simpa [cM,bN]using hm
   subst this;exact .inr ⟨_,bO _ (aZ.2 rfl)⟩
  ·unfold execOp;rw[ho];exact iT hr
 ·simp at h
end
end Go.FG

namespace Go.FG
section
variable {P:c6}
def lY(elem:TypeId)(size:aC)(base:ay Addr)(sLen sCap:aC)(s x:bn)(aN:aY)(n:aC)(JD:Sem (dp bn)):Sem bn:=
 if sLen+n<=sCap then do
  let new<-JD
  if let ah a:=base then storeCells (a.add (sLen*size)) new.toList
  pure (.slice base (sLen+n) sCap)
 else do
  if((sLen+n:aC):aw)>ao.max/\(aN\/(<-typeInfo elem).bytes=0)then runtimePanic (.error "growslice: len out of range")
  if I8 (sLen+n) sCap*(<-typeInfo elem).bytes>2^48 then(if aN then runtimePanic (.error "growslice: len out of range")else do
   if !(<-Builtin.mayShare size sLen n base x)then mark .noRoom
   unsupported (.resourceLimit "append: a slice or a string whose bytes no memory bears"))
  let MI<-choose (.appendCap (sLen+n) sCap elem)
  askRoom (MI*(<-typeInfo elem).bytes)
  let old<-fA size sLen s
  let new<-JD
  let rest:=fO (<-zeroValue elem).cells (MI-(sLen+n))
  pure (.slice (ah (<-newRow elem (old++new++rest))) (sLen+n) MI)
theorem A0{w:bJ}{t u ty el:aC}{inf:Ls}(hu:P.underlying t=ah (.slice el))(hi:P.info? el=ah inf)(hd:(∃e',P.underlying u=ah (.slice e'))\/P.underlying u=ah .string)
  {base:ay Addr} {sLen sCap m:aC} {x:bn} (hl:(pB x).run P w= .ok m w):
  (iv #[t,u] ty #[.slice base sLen sCap,x]).run P w=(lY el inf.size base sLen sCap (.slice base sLen sCap) x ak m (fA inf.size m x)).run P w:=by
 have hs:(sizeOf el).run P w= .ok inf.size w:=by simp[sizeOf,typeInfo,hi]
 rcases hd with ⟨e',hd⟩|hd<;>
  (simp only[iv,h_,sD,dO,cq,run_underlying hu,run_underlying hd,bG,hs,cU,hl,dt,if_false,bS,if_true,false_or,m8]
   unfold lY
   simp only[m8,cq,dt,if_false,false_or,cU]
   try rfl)
theorem D5{w:bJ}{t u ty el:aC}{inf:Ls}(hu:P.underlying t=ah (.slice el))(hi:P.info? el=ah inf){k:nh}(hd:P.underlying u=ah (.int k))
  {base:ay Addr} {sLen sCap m:aC} {x:bn} {k':nh} (hx:x= .int k' (m:aw)) (h1:m<=9223372036854775807) (h2:m*inf.bytes<=140737488355328):
  (iv #[t,u] ty #[.slice base sLen sCap,x]).run P w=(lY el inf.size base sLen sCap (.slice base sLen sCap) x ai m (if m*inf.size=0 then pure #[]else do pure (fO (<-zeroValue el).cells m))).run P w:=by
 have hs:(sizeOf el).run P w= .ok inf.size w:=by simp[sizeOf,typeInfo,hi]
 have ht:∀W,(typeInfo el).run P W= .ok inf W:=λW=>by simp[typeInfo,hi]
 have hw:ao.wrap (m:aw)=m:=by rw[qb];omega
 have c1:¬((m:aw)<0):=by omega
 have c2:¬((m:aw)*(inf.bytes:aw)>2^48):=by
  have a2:((m*inf.bytes:aC):aw)<=140737488355328:=by generalize m*inf.bytes=q at h2;omega
  rw[X_]at a2;generalize (m:aw)*(inf.bytes:aw)=q at a2;have:(2:aw)^48=281474976710656:=by decide
  omega
 subst hx;have ha:(asInt (.int k' (m:aw))).run P w= .ok (m:aw) w:=by simp[asInt,asIntOf]
 simp only[iv,h_,sD,dO,cq,run_underlying hu,run_underlying hd,bG,hs,ht,ha,hw,c1,c2,cU,if_false,aX,dt,if_true,m8,eT];unfold lY;simp only[m8,cq,if_true,true_or,and_true,cU,ht,bG];try rfl
theorem Fs{w w':bJ}{el size sLen sCap m:aC}{a:Addr}{s x:bn}{zs:aY}{app:Sem (dp bn)}{news:az bn}(ha:app.run P w= .ok news.toArray w)(h:sLen+m<=sCap)(Mv:(storeCells (a.add (sLen*size)) news).run P w= .ok () w'):
  (lY el size (ah a) sLen sCap s x zs m app).run P w= .ok (.slice (ah a) (sLen+m) sCap) w':=by unfold lY;rw[bB h];simp only[cq,ha,bG,Mv,cU]
theorem Fq{w:bJ}{el size sCap:aC}{s x:bn}{zs:aY}{app:Sem (dp bn)}{news:az bn}(ha:app.run P w= .ok news.toArray w):
  (lY el size aj 0 sCap s x zs 0 app).run P w= .ok (.slice aj 0 sCap) w:=by unfold lY;rw[bB (bk _)];simp only[cq,ha,bG,cU]
theorem Fp{w:bJ}{el size sLen sCap m:aC}{base:ay Addr}{s x:bn}{zs:aY}{app:Sem (dp bn)}{pr news:az bn}{inf:Ls}{z:bn}(hi:P.info? el=ah inf)(hz:inf.zero=ah z)
  (h:¬sLen+m<=sCap) (h63:sLen+m<=9223372036854775807) (h48:(sLen+m)*inf.bytes<=140737488355328)
  (ho:(fA size sLen s).run P w.drew= .ok pr.toArray w.drew) (ha:app.run P w.drew= .ok news.toArray w.drew):
  (lY el size base sLen sCap s x zs m app).run P w= .ok (.slice (ah (ad w.heap.size 0)) (sLen+m) (grownCap w (sLen+m) sCap el))
   (w.drew.alloc (.cells (pr.toArray++news.toArray++fO z.cells (grownCap w (sLen+m) sCap el-(sLen+m))) el)):=by
 have ht:∀W,(typeInfo el).run P W= .ok inf W:=λW=>by simp[typeInfo,hi]
 have hzv:∀W,(zeroValue el).run P W= .ok z W:=λW=>by simp[zeroValue,typeInfo,hi,hz]
 have c1:¬(((sLen+m:aC):aw)>ao.max/\(zs=ai\/inf.bytes=0)):=by
  have:ao.max=9223372036854775807:=by decide
  rintro ⟨h,_⟩;omega
 have c2:¬(I8 (sLen+m) sCap*inf.bytes>2^48):=by
  have:=growslice_fits (need:=sLen+m) (old:=sCap) (bytes:=inf.bytes) (by omega) h48;have e:2^48=281474976710656:=by decide
  omega
 have XJ:(choose (.appendCap (sLen+m) sCap el)).run P w= .ok (grownCap w (sLen+m) sCap el) w.drew:=by rw[run_choose_drew];rfl
 have avb:∀n W,(askRoom n).run P W= .ok () W:=λn W=>by simp only[askRoom];split<;>simp
 have AK:∀cs,(newRow el cs).run P w.drew= .ok (ad w.heap.size 0) (w.drew.alloc (.cells cs el)):=λcs=>by simp only[newRow,newObj,cq,ni,bG,cU];rfl
 unfold lY;rw[bH h];simp only[cq,ht,bG,c1,c2,if_false,XJ,avb,ho,ha,hzv,AK,cU,m8]
structure App (P:c6) (w:bJ) (u:aC) (x:bn) (z:dp bn) (sz m:aC) (news:az bn):Prop where
 h:(((∃e',P.underlying u=ah (.slice e'))\/P.underlying u=ah .string)/\(pB x).run P w= .ok m w/\(fA sz m x).run P w= .ok news.toArray w/\(fA sz m x).run P w.drew= .ok news.toArray w.drew)\/
  ((∃k,P.underlying u=ah (.int k))/\(∃k',x= .int k' (m:aw))/\news=(fO z m).toList)
 len:news.length=m*sz
 one:∀v∈news,v.oneCell'=ai
structure af4 (w w':bJ) (p p':Pl) (m:aC) (news:az bn):Prop where
 n:p'.n=p.n+m
 sz:p'.sz=p.sz
 nil:p'.nil=ai->p'.cap=0/\p.n=0/\m=0
 mem:p'.nil=ak->∃i9,nV w' p'.blk i9/\p'.n<=p'.cap/\p'.cap<=maxLen/\p'.off+p'.cap*p'.sz<=i9.size/\
  (∀k u,k<p.n*p.sz->w.cell? (ad p.blk (p.off+k))=ah u->i9[p'.off+k]? =ah u)/\(∀k,k<m*p.sz->i9[p'.off+p.n*p.sz+k]? =news[k]?)
 blk:p'.nil=ak->(p.nil=ak/\p'.blk=p.blk)\/p'.blk=w.heap.size
 old:∀b,b<w.heap.size->(p'.nil=ak->b≠p'.blk)->w'.heap[b]? =w.heap[b]?
 size:w.heap.size<=w'.heap.size
 os:w'.os=w.os
 tape:w'.tape=w.tape
 output:w'.output=w.output
theorem tQ{w:bJ}{t u ty el:aC}{inf:Ls}{z:bn}{p:Pl}{x:bn}{m:aC}{news:az bn}(hu:P.underlying t=ah (.slice el))(hi:P.info? el=ah inf)(hz:inf.zero=ah z)(RH:z.cells.size=p.sz)(fZ:inf.size=p.sz)
  (ju:p.nil=ai->p.n=0) (Uk:p.nil=ak->∃vals,nV w p.blk vals/\p.n<=p.cap/\p.cap<=maxLen/\p.off+p.cap*p.sz<=vals.size)
  (hx:App P w u x z.cells p.sz m news) (h1:(p.n+m)*inf.bytes<=140737488355328) (h2:p.n+m<=9223372036854775807):
  ∃p' w',(iv #[t,u] ty #[lO p,x]).run P w= .ok (lO p') w'/\af4 w w' p p' m news:=by
 have hmb:m*inf.bytes<=140737488355328:=dc (b_ _ (by omega)) h1;have hzv:∀W,(zeroValue el).run P W= .ok z W:=λW=>by simp[zeroValue,typeInfo,hi,hz]
 have oT:p.n+m<=maxLen:=by simp only[maxLen];omega
 have tail:∀(base:ay Addr) (sLen sCap:aC),∃(zs:aY) (app:Sem (dp bn)),(iv #[t,u] ty #[.slice base sLen sCap,x]).run P w=(lY el p.sz base sLen sCap (.slice base sLen sCap) x zs m app).run P w/\
   app.run P w= .ok news.toArray w/\app.run P w.drew= .ok news.toArray w.drew:=by
  intro base sLen sCap
  rcases hx.h with ⟨hd,hl,hf,hf2⟩|⟨⟨k,hk⟩,⟨k',hxv⟩,hn⟩
  ·have:=A0 (P:=P) (w:=w) (ty:=ty) hu hi hd (base:=base) (sLen:=sLen) (sCap:=sCap) hl;rw[fZ]at this;exact⟨_,_,this,hf,hf2⟩
  ·have:=D5 (P:=P) (w:=w) (ty:=ty) hu hi hk (base:=base) (sLen:=sLen) (sCap:=sCap) hxv (by omega) hmb;rw[fZ]at this;refine⟨_,_,this, ?_, ?_⟩
   ·rw[hn];split
    ·rename_i h0;have:fO z.cells m= #[]:=BB (by rw[size_zeroCells,RH,h0]);rw[this];rfl
    ·simp only[cq,hzv,bG,cU,uc]
   ·rw[hn];split
    ·rename_i h0;have:fO z.cells m= #[]:=BB (by rw[size_zeroCells,RH,h0]);rw[this];rfl
    ·simp only[cq,hzv,bG,cU,uc]
 have grow:∀(base:ay Addr) (sCap:aC) (pr:az bn) (zs:aY) (app:Sem (dp bn)),¬p.n+m<=sCap->pr.length=p.n*p.sz->(∀k u,k<p.n*p.sz->w.cell? (ad p.blk (p.off+k))=ah u->pr[k]? =ah u)->
   (fA p.sz p.n (.slice base p.n sCap)).run P w.drew= .ok pr.toArray w.drew->app.run P w.drew= .ok news.toArray w.drew->
   ∃p' w',(lY el p.sz base p.n sCap (.slice base p.n sCap) x zs m app).run P w= .ok (lO p') w'/\af4 w w' p p' m news:=by
  intro base sCap pr zs app hc Gk QK hf ha
  have hr:=Fp (P:=P) (w:=w) (size:=p.sz) (zs:=zs) (x:=x) (base:=base) hi hz hc h2 h1 hf ha
  refine⟨⟨ak,w.heap.size,0,grownCap w (p.n+m) sCap el,p.n+m,p.sz⟩,_,hr,⟨rfl,rfl,λh=>(by cases h),λ_=> ?_,λ_=> .inr rfl,λb hb _=>heap_alloc_old w.drew _ b hb,by simp,rfl,rfl,rfl⟩⟩
  have hge:=grownCap_ge w (p.n+m) sCap el
  refine⟨_,⟨_,_,heap_alloc_new w.drew _,λq _=>by simp⟩,hge,grownCap_le_maxLen w _ _ _ oT, ?_,λk u hk sq=> ?_,λk hk=> ?_⟩
  ·simp only[Array.size_append,Xw,size_zeroCells,RH,Gk,hx.len,<-dn,bT];exact b_ _ (by omega)
  ·rw[bT,P4,Fv (by simpa [Gk]using hk),h_];exact QK k u hk sq
  ·rw[bT,P4,Array.getElem?_append_right (by simp[Gk]),Fv (by simp[Gk,hx.len];omega),h_];congr 1;simp[Gk]
 cases hq:p.nil with
 |true=>
  have hn:=ju hq;rw[nE hq];obtain⟨zs,app,hr,ha,ha2⟩:=tail aj 0 0;rw[hr];by_cases hm:m=0
  ·subst hm;refine⟨⟨ai,0,0,0,0,p.sz⟩,w,Fq ha,⟨by simp[hn],rfl,λ_=>⟨rfl,hn,rfl⟩,λh=>(by cases h),λh=>(by cases h),λ_ _ _=>rfl,cJ _,rfl,rfl,rfl⟩⟩
  ·have:=grow aj 0 [] zs app (by omega) (by simp[hn]) (λk u hk=>by rw[hn]at hk;simp at hk) (by rw[hn];exact run_firstCells_none _ _ _ _ _) ha2;rwa[hn]at this
 |false=>
  rw[e_ hq];obtain⟨vals,hb,Ul,YM,mA⟩:=Uk hq;obtain⟨zs,app,hr,ha,ha2⟩:=tail (ah (ad p.blk p.off)) p.n p.cap;rw[hr];have hle:p.n*p.sz<=p.cap*p.sz:=b_ _ Ul;by_cases hc:p.n+m<=p.cap
  ·have vp:p.off+p.n*p.sz+news.length<=vals.size:=by have:(p.n+m)*p.sz<=p.cap*p.sz:=b_ _ hc;rw[dn]at this;rw[hx.len];omega
   have Mv:=nI (P:=P) w hb vp hx.one;have hrr:=Fs (P:=P) (s:= .slice (ah (ad p.blk p.off)) p.n p.cap) (x:=x) (el:=el) (size:=p.sz) (zs:=zs) ha hc (by rw[Addr.nZ];exact Mv);refine⟨⟨ak,p.blk,p.off,p.cap,p.n+m,p.sz⟩,_,hrr,⟨rfl,rfl,λh=>(by cases h),λ_=>⟨_,hb.setRow (fa vp),hc,YM,by rw[fa vp];exact mA,λk u hk sq=> ?_,λk hk=> ?_⟩,λ_=> .inl ⟨hq,rfl⟩,λb _ RD=>setRow_other w _ b _ (RD rfl),by simp[lA],rfl,rfl,rfl⟩⟩
   ·show(er vals (p.off+p.n*p.sz) news)[p.off+k]? =ah u;rw[gz vp,bH (by omega),<-hb.cell];exact sq
   ·show(er vals (p.off+p.n*p.sz) news)[p.off+p.n*p.sz+k]? =news[k]?;rw[gz vp,bB (by rw[hx.len];omega)];congr 1;omega
  ·have hcell:∀k,k<p.n*p.sz->w.cell? (ad p.blk (p.off+k))=vals[p.off+k]? :=λk _=>hb.cell _;let pr:=(vals.toList.drop p.off).take (p.n*p.sz);have Gk:pr.length=p.n*p.sz:=by simp only[pr,eE,iC,dW];omega
   have QK:∀k u,k<p.n*p.sz->w.cell? (ad p.blk (p.off+k))=ah u->pr[k]? =ah u:=λk u hk sq=>by rw[hcell k hk]at sq;simp only[pr,ea,bB hk,dV,cZ,sq]
   refine grow (ah (ad p.blk p.off)) p.cap pr zs app hc Gk QK ?_ ha2;refine run_firstCells_some w.drew p.sz p.n _ _ _ pr Gk (λj v hj=> ?_);have kg:j<p.n*p.sz:=by rw[<-Gk];exact(aT.1 hj).1
   simp only[pr,ea,bB kg,dV,cZ]at hj;rw[Addr.nZ];have:=hcell j kg;rw[hj]at this;simpa using this
end
end Go.FG

