/- An evaluator for the part of the language that this program uses, proved sound over the model: states told as values and lists; what an evaluation tells, the call does. No condition. -/
import Derived.Calls
import Derived.Orders
import Derived.Below
import Derived.Laws.AppendOwn
import Derived.Laws.Slices
import Derived.Laws.StructEq
import Derived.Laws.Tables
import Derived.Laws.MakeOwn
import Derived.Laws.IdiomStrings
import Derived.Laws.BytesArg
import Derived.Laws.NewFold
import Derived.SizedLaws
import Derived.Carry
import Derived.ProofKit
import Derived.KernelRfl
import Derived.Laws.Strings
import Derived.Sort.Grow
import Derived.Deep.Draws
set_option linter.all false
set_option maxRecDepth 100000
set_option autoImplicit true
set_option relaxedAutoImplicit true
open Array renaming getElem?_eq_some_iff->dD,getD_eq_getD_getElem?->eM,getElem?_setIfInBounds->oC,toArray_toList->uH,getElem?_toList->da,ext'->tw,length_toList->dM,toList_map->A5,getElem?_map->OJ,getElem?_extract->et,eq_empty_of_size_eq_zero->A3,append_assoc->OI,getElem?_append_left->Et
open BitVec renaming ofInt->cu
open Bool renaming false->aq,true->ao,false_eq_true->dq,and_eq_true->aM,not_eq_true'->di,and_assoc->nV,or_eq_false_iff->iG,not_false->bH,not_true->aY
open ByteArray renaming size_extract->vQ,size_append->dL,empty->HY,size->bf
open Decidable renaming decide->ah
open Go renaming IntKind->tL,World->cN,Value->bS,Operand->fB,Oper->ia,Program->dx
open Go.Act renaming put->Vl,eval->Ie
open Go.Builtin renaming len_->wK,max2->Ez,min2->EA,clear_->o5,zeroCells->fS,nextslicecap->HZ,firstCells->fu,lenOf->pR,append_->iu
open Go.Instr renaming loadAt->zc,sureAddr->va,storeAt->VZ,fieldAt->VX,indexAt->VY,sliceBound->rK,sliceBounds->nb,sliceAt->qR,fill->pS,buildSlice->AD
open Go.IntKind renaming i64->ak,wrap_i64->qy
open Go.Op renaming bytesLess->cf
open Go.Oper renaming wp->OP
open Go.Region renaming binds->mM
open Go.Result renaming andThen_ok->bI
open Go.Sem renaming run_bind->cx,run_pure->c8,run->nu,run_ite->np
open Go.World renaming cell?->OQ,frozen?->Y7,cell?_of_block->vG,setRow->lJ
open Int renaming toNat_natCast->dX,natCast_mul->V0
open List renaming mem_cons_of_mem->cK,mem_cons->cF,mem_cons_self->cQ,mem_flatMap->bL,mem_of_getElem?->aU,append_nil->d_,length_nil->jU,getElem?_toArray->ib,append_assoc->cg,getElem?_append_left->dz,getElem?_take->ej,getElem?_append_right->de,getElem?_drop->eh,length_eq_one_iff->fW,getElem?_cons_succ->dQ,getD->eC,getElem?_map->bJ,getElem_mem->bF,mem_map->cU,all_eq_true->bE,range->c7,getElem?_range->wa,getElem?_eq_none->ll,getElem?_eq_some_iff->aW,mem_of_mem_drop->lL,mem_of_mem_take->iK,getElem?_of_mem->b5,map_toArray->DZ,map_cons->fD,map_nil->wb,ext_getElem?->Vq,eq_nil_of_length_eq_zero->eU,mem_append->a_,length_cons->bT,foldl_cons->pk,map_map->jL,map_id->OT,map_congr_left->Qh,size_toArray->Cr,length_map->bK,getD_eq_getElem?_getD->dc,getElem?_set->Qf,all_cons->iS,length_take->dG,length_drop->g_,length_singleton->bz,mem_append_left->bZ,mem_append_right->bR,nodup_append->eK,length_set->ch,mem_or_eq_of_mem_set->rS,nodup_cons->kU,nil_append->eR,mem_singleton->a7,getElem?_cons_zero->s_,map_append->cT,length_append->bU
open List.cons renaming injEq->ZD
open Nat renaming beq->bN,blt->oE,ble->e6,le_refl->bW,le_trans->ca,lt_of_lt_of_le->jV,eq_of_beq_eq_true->aX,add_zero->BJ,add_assoc->kc,le_of_ble_eq_true->b8,add_mul->dv,zero_le->bB,mul_le_mul_right->b9,eq_zero_or_pos->DP,div_lt_iff_lt_mul->yS,mod_lt->F0,div_add_mod->JV,mul_comm->Ii,zero_add->bV,lt_or_gt_of_ne->Qj,add_comm->i_,sub_self->qe,sub_zero->H2,lt_irrefl->bg
open Option renaming some->ai,none->ay,map_some->jf,getD_some->zf
open Option.some renaming inj->aL,injEq->jG
open Prod.mk renaming inj->bX,injEq->jg
open UInt8 renaming ofNat->aj
open _root_ renaming Nat->aN,Int->az,Bool->aZ,ByteArray->ar,List->aE,Option->aG,Array->eN,if_pos->bm,if_neg->bk,absurd->cO,cond_true->au,cond_false->ax,decide_eq_true_eq->ba,of_decide_eq_true->cB,congrArg->gu
namespace Go.FG
inductive Ck where
 |i (k:tL)|b|s|l (e:aN)|o
inductive CV where
 |i (k:tL) (n:az)|b (x:aZ)|s (x:ar)|l (e:aN) (xs:aE (aE CV))
abbrev Row:=aE (aE CV)
def CV.kd:CV->Ck
 |.i k _=>.i k|.b _=>.b|.s _=>.s|.l e _=>.l e
def bO:CV->az|.i _ n=>n|_=>0
def cvB:CV->aZ|.b x=>x|_=>aq
def bn:CV->ar|.s x=>x|_=>⟨#[]⟩
def jd:CV->Row|.l _ xs=>xs|_=>[]
def av(xs:Row)(i j:aN):CV:=(xs.getD i []).getD j (.b aq)
inductive AV where
 |i (k:tL) (n:az)|b (x:aZ)|s (x:ar)
 |sh (e:aN) (xs:Row)
 |nl
 |own (nm:aN)
 |vw (nm lo hi:aN)
 |bp (nm j:aN)
 |rp (nm i j:aN)
 |sp (e:aN) (xs:Row) (i j:aN)
 |mK (nm i j:aN)
 |ip (nm i j i2 j2:aN)
 |fn (f:aN) (amI:aE (aE CV))
 |fp (xs:aE CV) (j:aN)
inductive SV where
 |v (agg:aZ) (xs:aE AV)|kz (xs:aE (aZ×aE AV))|un
inductive Obj where
 |box (xs:aE AV)|ov (xs:aE CV)|row (e:aN) (ex:aZ) (xs:Row)|f_ (e:aN) (xs:Row)|dead
inductive e9 where
 |v (x:SV)|o (x:Obj)|jW
def z7(n:aN):aZ:=bN (n%1000) 999&&oE n 900000000
abbrev St:=aN->e9
def p_(s:St)(k:aN)(c:e9):St:=λn=>bif bN n k then c else s n
def wr(s:St):aE (aN×e9)->St
 |[]=>s
 |(k,c)::r=>wr (p_ s k c) r
def qP(n:aN):aN:=2*n
def dj(n:aN):aN:=2*n+1
inductive Rd (α:Type) where
 |ret (a:α)|fail|get (k:aN) (f:e9->Rd α)
def Rd.bind{α β:Type}:Rd α->(α->Rd β)->Rd β
 |.ret a,f=>f a
 |.fail,_=>.fail
 |.get k g,f=>.get k λc=>(g c).bind f
def Rd.run{α:Type}:Rd α->St->aE aN->aG (α×aE aN)
 |.ret a,_,l=>ai (a,l)
 |.fail,_,_=>ay
 |.get k f,s,l=>(f (s k)).run s (k::l)
structure TI where
 agg:aZ
 ks:aE Ck
 bytes:aN
inductive AA where
 |i (k:tL) (n:az)|b (x:aZ)|s (x:ar)|sh (e:aN) (xs:Row)|nl
 |ow (e:aN) (ex:aZ) (xs:Row)|kp (xs:Row)|fn (f:aN) (amI:aE (aE CV))
inductive gD where
 |v (agg:aZ) (xs:aE AA)|pt (xs:aE AA)|fb (xs:aE CV)
structure iO where
 rs:aE gD
 outs:aE (aE AA)
structure Bc where
 f:cN->(aN->Prop)->Prop
 fr:∀{w w':cN} {K K':aN->Prop},f w K->(∀b,K b->w'.heap[b]? =w.heap[b]?)->(∀b,K b->K' b)->f w' K'
def Bc.jW:Bc:=⟨λ_ _=>True,λ_ _ _=>trivial⟩
structure Tab where
 ty:aN->aG TI
 fo:aN->aN->aG (aN×aN)
 eqs:aE aN
 VD:aN->aN->aZ:=λ_ _=>aq
 gp:Bc:=.jW
inductive Om where
 |nat|own (e:aN)|sh (e:aN)
structure gy extends Tab where
 call:aN->aE gD->aG (aZ×iO)
 om:aN->aN->Om
 mode:aN->aN->aZ
 keep:aN->aE aN
 tk:aN->aZ
instance:Coe gy Tab:=⟨gy.toTab⟩
structure tF where
 cond:aZ
 ws:aE (aN×e9)
def mJ(n:aN):aE aN->aZ
 |[]=>aq|m::r=>bN n m||mJ n r
def cst:bS->SV
 |.int k n=>.v aq [.i k n]|.bool x=>.v aq [.b x]|.string x=>bif e6 x.size 4611686018427387904 then .v aq [.s x]else .un
 |.slice ay 0 0=>.v aq [.nl]
 |_=>.un
def Hp(x:fB):Rd SV:=
 match x with
 |.tmp t=>.get (qP t) λ|.v x=>.ret x|_=>.ret .un
 |.const v=>.ret (cst v)
 |.func f=>.ret (.v aq [.fn f []])
 |.global _=>.fail
def jP(nm:aN):Rd Obj:=.get (dj nm) λ|.o x=>.ret x|_=>.fail
def fresh(nm:aN):Rd Unit:=.get (dj nm) λ|.jW=>bif e6 nm 899999999 then .ret ()else .fail|_=>.fail
def sD(x:fB):Rd AV:=(Hp x).bind λ|.v aq [a]=>.ret a|_=>.fail
def Dc(x:fB):Rd (tL×az):=(sD x).bind λ|.i k n=>.ret (k,n)|_=>.fail
def dw(o:ia)(v:SV):aE (aN×e9):=match o.dst with|some d=>[(qP d,.v v)]|none=>[]
def val(o:ia)(v:SV):Rd tF:=.ret ⟨ao,dw o v⟩
def Ay(o:ia)(v:AV):Rd tF:=val o (.v aq [v])
def LV(o:ia)(c:aZ)(v:AV):Rd tF:=.ret ⟨c,dw o (.v aq [v])⟩
def tv(E:gy)(t:aN):Rd TI:=match E.ty t with|some i=>.ret i|none=>.fail
def qo(E:gy)(t:aN):Rd Ck:=(tv E t).bind λti=>match ti.agg,ti.ks with|false,[k]=>.ret k|_,_=>.fail
def DK:Ck->AV
 |.i k=>.i k 0|.b=>.b aq|.s=>.s ⟨#[]⟩|.l _=>.nl|.o=>.nl
def Az:Ck->CV
 |.i k=>.i k 0|.b=>.b aq|.s=>.s ⟨#[]⟩|.l e=>.l e []|.o=>.b aq
def Li(ks:aE Ck):aZ:=ks.all λ|.o=>aq|_=>ao
def dec:Ck->CV->AV
 |.i k,x=>.i k (bO x)|.b,x=>.b (cvB x)|.s,x=>.s (bn x)|.l e,x=>.sh e (jd x)|.o,_=>.nl
def vy(xs:Row)(i:aN):aN->aE Ck->aE AV
 |_,[]=>[]
 |j,k::ks=>dec k (av xs i j)::vy xs i (j+1) ks
def Bn(nm:aN)(xs:Row)(i:aN):aN->aE Ck->aE AV
 |_,[]=>[]
 |j,.l _::ks=>.mK nm i j::Bn nm xs i (j+1) ks
 |j,k::ks=>dec k (av xs i j)::Bn nm xs i (j+1) ks
def Ys:CV->AV
 |.i k n=>.i k n|.b x=>.b x|.s x=>.s x|.l e xs=>.sh e xs
def kG{α:Type}(xs:aE α)(j:aN)(d:aE α):aE α:=xs.take j++d++xs.drop (j+d.length)
def eH(xs:Row)(i j:aN)(d:aE CV):Row:=xs.set i (kG (xs.getD i []) j d)
def aqN(agg:aZ)(xs:aE AV):SV:=.v agg xs
def ez(xs:Row)(lo hi:aN):Row:=(xs.drop lo).take (hi-lo)
def plain(ks:aE Ck):aZ:=ks.all λ|.i _=>ao|.b=>ao|.s=>ao|_=>aq
def ckB:Ck->Ck->aZ
 |.i a,.i b=>ah (a=b)|.b,.b=>ao|.s,.s=>ao|.l a,.l b=>bN a b|.o,.o=>ao|_,_=>aq
def qJ:aE Ck->aE Ck->aZ
 |[],[]=>ao|x::l,y::r=>ckB x y&&qJ l r|_,_=>aq
def IU(ex:aZ)(k:Ck)(a:AV):Rd (CV×aE (aN×e9)):=
 match k,a with
 |.i k,.i k' n=>if k=k' then .ret (.i k n,[])else .fail
 |.b,.b x=>.ret (.b x,[])
 |.s,.s x=>.ret (.s x,[])
 |.l e,.nl=>.ret (.l e [],[])
 |.l e,.sh d xs=>bif bN e d&& !ex then .ret (.l e xs,[])else .fail
 |.l e,.own nm=>(jP nm).bind λ
  |.row d f xs=>bif bN e d&&f then(bif ex then .ret (.l e xs,[(dj nm,.o .dead)])else .fail)else .fail
  |.f_ d xs=>bif bN e d&& !ex then .ret (.l e xs,[])else .fail
  |_=>.fail
 |_,_=>.fail
def zV(ex:aZ):aE Ck->aE AV->Rd (aE CV×aE (aN×e9))
 |[],[]=>.ret ([],[])
 |k::ks,a::r=>(IU ex k a).bind λ(c,w)=>(zV ex ks r).bind λ(cs,ws)=>.ret (c::cs,w++ws)
 |_,_=>.fail
def ahp:aE AV->aZ
 |[]=>ao
 |.sh _ _::_=>aq
 |_::r=>ahp r
end Go.FG
namespace Go.FG
def adz(op:BinOp)(k:tL)(a b:az):aG (aZ×AV):=
 match op with
 |.add=>ai (ao,.i k (k.wrap (a+b)))
 |.sub=>ai (ao,.i k (k.wrap (a-b)))
 |.mul=>ai (ao,.i k (k.wrap (a*b)))
 |.quo=>ai (!(b==0),.i k (k.wrap (a.tdiv b)))
 |.rem=>ai (!(b==0),.i k (a.tmod b))
 |.and=>ai (ao,.i k (k.wrap (cu k.bits a&&&cu k.bits b).toNat))
 |.or=>ai (ao,.i k (k.wrap (cu k.bits a|||BitVec.ofInt k.bits b).toNat))
 |.xor=>ai (ao,.i k (k.wrap (cu k.bits a^^^cu k.bits b).toNat))
 |.eql=>ai (ao,.b (a==b))
 |.neq=>ai (ao,.b (a !=b))
 |.lss=>ai (ao,.b (ah (a<b)))
 |.leq=>ai (ao,.b (ah (a<=b)))
 |.gtr=>ai (ao,.b (ah (a>b)))
 |.geq=>ai (ao,.b (ah (a≥b)))
 |_=>ay
def adB(op:BinOp)(a b:ar):aG (aZ×AV):=
 match op with
 |.add=>ai (ah (a.size+b.size<=4611686018427387904),.s (a++b))
 |.eql=>ai (ao,.b (a.toList==b.toList))
 |.neq=>ai (ao,.b (!(a.toList==b.toList)))
 |.lss=>ai (ao,.b (cf a.toList b.toList))
 |.leq=>ai (ao,.b (cf a.toList b.toList||a.toList==b.toList))
 |.gtr=>ai (ao,.b (!(cf a.toList b.toList||a.toList==b.toList)))
 |.geq=>ai (ao,.b (!(cf a.toList b.toList)))
 |_=>ay
def Wv:aE AV->aE AV->aG aZ
 |[],[]=>ai ao
 |.i k a::l,.i k' b::r=>if k=k' then(match Wv l r with|some t=>ai ((a==b)&&t)|none=>ay)else ay
 |.b a::l,.b b::r=>match Wv l r with|some t=>ai ((a==b)&&t)|none=>ay
 |.s a::l,.s b::r=>match Wv l r with|some t=>ai ((a.toList==b.toList)&&t)|none=>ay
 |_,_=>ay
def He:AV->Ck
 |.i k _=>.i k|.b _=>.b|.s _=>.s|_=>.o
def Kv(op:BinOp)(k:Ck):AV->AV->aG (aZ×AV)
 |.i k a,.i k' b=>if k=k' then adz op k a b else ay
 |.s a,.s b=>adB op a b
 |.b a,.b b=>match op,k with|.eql,.b=>ai (ao,.b (a==b))|.neq,.b=>ai (ao,.b (!(a==b)))|_,_=>ay
 |_,_=>ay
def shV(op:BinOp):AV->AV->aG (aZ×AV)
 |.i k a,.i _ b=>match op with
  |.shl=>ai (ah (0<=b),.i k (k.wrap (a*2^(min b.toNat k.bits))))
  |.shr=>ai (ah (0<=b),.i k (a.fdiv (2^(min b.toNat k.bits))))
  |_=>ay
 |_,_=>ay
def Ps:BinOp->aZ|.shl=>ao|.shr=>ao|_=>aq
def isEq:BinOp->aZ|.eql=>ao|.neq=>ao|_=>aq
def TW{α:Type}:aG α->Rd α|some a=>.ret a|none=>.fail
def adA(E:gy)(t:aN)(op:BinOp)(x y:SV):Rd (aZ×AV):=
 match x,y with
 |.v aq [a],.v aq [b]=>bif Ps op then TW (shV op a b)else(qo E t).bind λk=>TW (Kv op k a b)
 |.v ao xs,.v ao d=>(tv E t).bind λti=>
  bif isEq op&&mJ t E.eqs&&qJ (xs.map He) ti.ks&&qJ (d.map He) ti.ks&&plain ti.ks then TW (match Wv xs d with|some r=>ai (ao,AV.b (match op with|.eql=>r|_=> !r))|none=>ay)else .fail
 |_,_=>.fail
def Nk:aE AV->aE (aN×aE AV)->aE AV
 |z,[]=>z
 |z,(j,d)::r=>Nk (kG z j d) r
def Hq(E:gy)(t:aN):aE (aN×fB)->Rd (aE (aN×aE AV))
 |[]=>.ret []
 |(f,x)::r=>(Hp x).bind λ
  |.v _ d=>match E.fo t f with
   |some (o,n)=>bif bN d.length n then(Hq E t r).bind λl=>.ret ((o,d)::l)else .fail
   |none=>.fail
  |_=>.fail
def mG(E:gy)(a:AV):Rd (aN×Row):=
 match a with
 |.sh e xs=>.ret (e,xs)
 |.own nm=>(jP nm).bind λ|.row e _ xs=>.ret (e,xs)|.f_ e xs=>.ret (e,xs)|_=>.fail
 |.vw nm lo hi=>(jP nm).bind λ|.row e _ xs=>.ret (e,ez xs lo hi)|.f_ e xs=>.ret (e,ez xs lo hi)|_=>.fail
 |.mK nm i j=>(jP nm).bind λ
  |.row e ao xs=>(tv E e).bind λti=>match ti.ks[j]? with|some (.l d)=>.ret (d,jd (av xs i j))|_=>.fail
  |_=>.fail
 |_=>.fail
def aeh(E:gy)(k:Ck)(a:AV):Rd az:=
 match k,a with
 |.s,.s x=>.ret x.size
 |.l _,.nl=>.ret 0
 |.l _,.vw nm lo hi=>(jP nm).bind λ|.row _ _ _=>.ret ((hi-lo:aN):az)|.f_ _ _=>.ret ((hi-lo:aN):az)|_=>.fail
 |.l _,a=>(mG E a).bind λ(_,xs)=>.ret xs.length
 |_,_=>.fail
def KH(ex:aZ)(ks:aE Ck):aE (aN×fB)->Row->Rd (Row×aE (aN×e9))
 |[],z=>.ret (z,[])
 |(i,x)::r,z=>(Hp x).bind λ
  |.v _ d=>bif e6 (i+1) z.length then(zV ex ks d).bind λ(cs,w)=>(KH ex ks r (z.set i cs)).bind λ(z,ws)=>.ret (z,w++ws)else .fail
  |_=>.fail
def Ng:aE (aN×fB)->Rd aZ
 |[]=>.ret ao
 |(_,x)::r=>(Hp x).bind λ
  |.v _ d=>(Ng r).bind λb=>.ret (ahp d&&b)
  |_=>.fail
def aR(ks:aE Ck)(n:aN):Row:=List.replicate n (ks.map Az)
def bytesOf(xs:Row):ar:=⟨(xs.map λy=>aj (bO (y.getD 0 (.b aq))).toNat).toArray⟩
def rC(s:ar):Row:=s.data.toList.map λb=>[.i .u8 (b.toNat:az)]
def u8s:aE Ck->aZ|[.i .u8]=>ao|_=>aq
def flat(E:gy)(ks:aE Ck):aZ:=ks.all λ
 |.l e=>match E.ty e with|some ti=>plain ti.ks|none=>aq
 |_=>ao
def b_(n:aN)(bytes:aN):aZ:=ah (n*bytes<=140737488355328)&&ah (n<=9223372036854775807)
def uk(E:gy)(ti:TI)(p:AV):Rd (aE AV):=
 match p with
 |.bp nm j=>(jP nm).bind λ
  |.box xs=>bif e6 (j+ti.ks.length) xs.length then .ret ((xs.drop j).take ti.ks.length)else .fail
  |.ov xs=>bif e6 (j+ti.ks.length) xs.length then .ret (((xs.drop j).take ti.ks.length).map Ys)else .fail
  |_=>.fail
 |.fp xs j=>bif e6 (j+ti.ks.length) xs.length then .ret (((xs.drop j).take ti.ks.length).map Ys)else .fail
 |.sp e xs i j=>(tv E e).bind λte=>bif qJ ((te.ks.drop j).take ti.ks.length) ti.ks then .ret (vy xs i j ti.ks)else .fail
 |.rp nm i j=>(jP nm).bind λ
  |.row e ex xs=>(tv E e).bind λte=>bif qJ ((te.ks.drop j).take ti.ks.length) ti.ks then(bif ex&&z7 nm then(bif plain ti.ks then .ret (vy xs i j ti.ks)else .fail)else .ret (bif ex then Bn nm xs i j ti.ks else vy xs i j ti.ks))else .fail
  |.f_ e xs=>(tv E e).bind λte=>bif qJ ((te.ks.drop j).take ti.ks.length) ti.ks then .ret (vy xs i j ti.ks)else .fail
  |_=>.fail
 |.ip nm i j h d=>(jP nm).bind λ
  |.row e ao xs=>(tv E e).bind λte=>match te.ks[j]? with
   |some (.l f)=>(tv E f).bind λk=>bif qJ ((k.ks.drop d).take ti.ks.length) ti.ks then .ret (vy (jd (av xs i j)) h d ti.ks)else .fail
   |_=>.fail
  |_=>.fail
 |_=>.fail
def HL(E:gy)(p:AV)(d:aE AV):Rd (aE (aN×e9)):=
 match p with
 |.bp nm j=>(jP nm).bind λ
  |.box xs=>bif e6 (j+d.length) xs.length then .ret [(dj nm,.o (.box (kG xs j d)))]else .fail
  |_=>.fail
 |.rp nm i j=>(jP nm).bind λ
  |.row e ex xs=>(tv E e).bind λte=>bif plain ((te.ks.drop j).take d.length)then(zV aq ((te.ks.drop j).take d.length) d).bind λ(cs,_)=>.ret [(dj nm,.o (.row e ex (eH xs i j cs)))]else .fail
  |_=>.fail
 |.ip nm i j m h=>(jP nm).bind λ
  |.row e ao xs=>(tv E e).bind λte=>match te.ks[j]? with
   |some (.l f)=>(tv E f).bind λk=>bif plain k.ks then(zV aq ((k.ks.drop h).take d.length) d).bind λ(cs,_)=>
    .ret [(dj nm,.o (.row e ao (eH xs i j [.l f (eH (jd (av xs i j)) m h cs)])))]else .fail
   |_=>.fail
  |_=>.fail
 |_=>.fail
def Jj:aE AV->aZ
 |[]=>ao
 |.own _::_=>aq
 |_::r=>Jj r
def Ae:aN->aE AV->aG (aN×aN)
 |_,[]=>ay
 |q,.own n::r=>bif Jj r then ai (q,n)else ay
 |q,_::r=>Ae (q+1) r
def Ef(d f:aN)(zs:Row):aE Ck->aE AV->aG (aE CV)
 |[],[]=>ai []
 |.i k::ks,.i k' x::r=>if k=k' then(Ef d f zs ks r).map (.i k x:: ·)else ay
 |.b::ks,.b x::r=>(Ef d f zs ks r).map (.b x:: ·)
 |.s::ks,.s x::r=>(Ef d f zs ks r).map (.s x:: ·)
 |.l e::ks,.own n::r=>bif bN e d&&bN n f then(Ef d f zs ks r).map (.l d zs:: ·)else ay
 |_,_=>ay
def HK(E:gy)(n i j:aN)(f:aE AV):Rd (aE (aN×e9)):=
 (jP n).bind λ
 |.row e ao xs=>(tv E e).bind λte=>match Ae 0 f with
  |some (q,d)=>bif bN n d then .fail else(jP d).bind λ
   |.row h ao zs=>(tv E h).bind λk=>bif plain k.ks&&e6 (j+f.length) te.ks.length then(match Ef h d zs ((te.ks.drop j).take f.length) f with
    |some cs=>.ret [(dj n,.o (.row e ao (eH xs i j cs))),(dj d,.o .dead)]
    |none=>.fail)else .fail
   |_=>.fail
  |none=>.fail
 |_=>.fail
def U1(E:gy)(p:AV)(d:aE AV):Rd (aE (aN×e9)):=
 match p with
 |.rp n i j=>bif z7 n then HK E n i j d else HL E (.rp n i j) d
 |p=>HL E p d
def Sw(E:gy)(t:aN)(f:aN)(p:AV):Rd AV:=
 match E.fo t f with
 |none=>.fail
 |some (o,_)=>match p with
  |.bp nm j=>.ret (.bp nm (j+o))
  |.rp nm i j=>.ret (.rp nm i (j+o))
  |.sp e xs i j=>.ret (.sp e xs i (j+o))
  |.ip nm i j d h=>.ret (.ip nm i j d (h+o))
  |.fp xs j=>.ret (.fp xs (j+o))
  |_=>.fail
def SM(E:gy)(e:aN)(x:AV)(n:az):Rd (aZ×AV):=
 match x with
 |.sh d xs=>bif bN e d then .ret (ah (0<=n)&&ah (n<(xs.length:az)),.sp d xs n.toNat 0)else .fail
 |.own nm=>(jP nm).bind λ
  |.row d _ xs=>bif bN e d then .ret (ah (0<=n)&&ah (n<(xs.length:az)),.rp nm n.toNat 0)else .fail
  |.f_ d xs=>bif bN e d then .ret (ah (0<=n)&&ah (n<(xs.length:az)),.rp nm n.toNat 0)else .fail
  |_=>.fail
 |.vw nm lo hi=>(jP nm).bind λ
  |.row d _ xs=>bif bN e d then .ret (ah (0<=n)&&ah (n<((hi-lo:aN):az)),.rp nm (lo+n.toNat) 0)else .fail
  |.f_ d xs=>bif bN e d then .ret (ah (0<=n)&&ah (n<((hi-lo:aN):az)),.rp nm (lo+n.toNat) 0)else .fail
  |_=>.fail
 |.mK nm i j=>(jP nm).bind λ
  |.row f ao xs=>(tv E f).bind λte=>match te.ks[j]? with
   |some (.l d)=>bif bN e d then .ret (ah (0<=n)&&ah (n<((jd (av xs i j)).length:az)),.ip nm i j n.toNat 0)else .fail
   |_=>.fail
  |_=>.fail
 |_=>.fail
def oy(x:aG fB)(d:az):Rd az:=
 match x with
 |none=>.ret d
 |some x=>(Dc x).bind λ(_,n)=>.ret n
def gA(l h n:az):aZ:=ah (0<=l)&&ah (l<=h)&&ah (h<=n)
def Uk(e:aN)(x:AV)(lo hi:aG fB):Rd (aZ×AV):=
 match x with
 |.sh d xs=>bif bN e d then(oy lo 0).bind λl=>(oy hi xs.length).bind λh=>.ret (gA l h xs.length,.sh d (ez xs l.toNat h.toNat))else .fail
 |.own nm=>(jP nm).bind λ
  |.row d _ xs=>bif bN e d then(oy lo 0).bind λl=>(oy hi xs.length).bind λh=>.ret (gA l h xs.length,.vw nm l.toNat h.toNat)else .fail
  |.f_ d xs=>bif bN e d then(oy lo 0).bind λl=>(oy hi xs.length).bind λh=>.ret (gA l h xs.length,.vw nm l.toNat h.toNat)else .fail
  |_=>.fail
 |.vw nm a b=>(jP nm).bind λ
  |.row d _ _=>bif bN e d then(oy lo 0).bind λl=>(oy hi ((b-a:aN):az)).bind λh=>.ret (gA l h ((b-a:aN):az),.vw nm (a+l.toNat) (a+h.toNat))else .fail
  |.f_ d _=>bif bN e d then(oy lo 0).bind λl=>(oy hi ((b-a:aN):az)).bind λh=>.ret (gA l h ((b-a:aN):az),.vw nm (a+l.toNat) (a+h.toNat))else .fail
  |_=>.fail
 |.nl=>(oy lo 0).bind λl=>(oy hi 0).bind λh=>.ret (gA l h 0,.nl)
 |_=>.fail
def LJ(E:gy)(k:Ck)(x:AV)(lo hi:aG fB):Rd (aZ×AV):=
 match k,x with
 |.s,.s a=>(oy lo 0).bind λl=>(oy hi a.size).bind λh=>.ret (gA l h a.size,.s (a.extract l.toNat h.toNat))
 |.l e,x=>(tv E e).bind λ_=>Uk e x lo hi
 |_,_=>.fail
def xR(e:aN)(s:AV):Rd (aZ×Row×aE aN):=
 match s with
 |.nl=>.ret (ao,[],[])
 |.own nm=>(jP nm).bind λ
  |.row d ex xs=>bif bN e d then .ret (ex,xs,[nm])else .fail
  |_=>.fail
 |.vw nm lo hi=>(jP nm).bind λ
  |.row d ex xs=>bif bN e d then .ret (ex,ez xs lo hi,[nm])else .fail
  |_=>.fail
 |_=>.fail
def Tk(E:gy)(f e:aN)(ks:aE Ck)(b:aE aN)(x:AV):Rd (aZ×Row×aE (aN×e9)):=
 match x with
 |.s a=>bif u8s ks then .ret (ao,rC a,[])else .fail
 |.nl=>.ret (ao,[],[])
 |.sh d xs=>bif bN e d then .ret (plain ks,xs,[])else .fail
 |.own nm=>(jP nm).bind λ
  |.row d ex xs=>bif bN e d then
   (bif plain ks|| !ex then .ret (plain ks,xs,[])
   else bif mJ nm b then .fail
   else bif E.tk f then .ret (aq,xs,[(dj nm,.o (.f_ e xs))])else .ret (ao,xs,[(dj nm,.o .dead)]))else .fail
  |.f_ d xs=>bif bN e d then .ret (plain ks,xs,[])else .fail
  |_=>.fail
 |.vw nm lo hi=>(jP nm).bind λ
  |.row d ex xs=>bif bN e d then
   (bif plain ks|| !ex then .ret (plain ks,ez xs lo hi,[])
   else bif mJ nm b then .fail
   else bif E.tk f then .ret (aq,ez xs lo hi,[(dj nm,.o (.f_ e xs))])else .fail)else .fail
  |.f_ d xs=>bif bN e d then .ret (plain ks,ez xs lo hi,[])else .fail
  |_=>.fail
 |.mK nm i j=>bif plain ks then(mG E (.mK nm i j)).bind λ(d,xs)=>bif bN e d then .ret (ao,xs,[])else .fail else .fail
 |_=>.fail
def oI(b:aE aN):aE (aN×e9):=b.map λn=>(dj n,.o .dead)
def GQ(E:gy)(d:aN)(t:aN)(s x:AV):Rd (aZ×AV×aE (aN×e9)):=
 (tv E t).bind λti=>match ti.agg,ti.ks with
 |false,[.l e]=>(tv E e).bind λte=>bif Li te.ks then(xR e s).bind λ(f,xs,b)=>
  (Tk E d e te.ks b x).bind λ(h,i,j)=>(fresh d).bind λ_=>
  .ret (b_ (xs.length+i.length) te.bytes,.own d,oI b++(j++[(dj d,.o (.row e (f&&h) (xs++i)))]))else .fail
 |_,_=>.fail
def Vi(E:gy)(d:aN)(t:aN)(s:AV)(n:az):Rd (aZ×AV×aE (aN×e9)):=
 (tv E t).bind λti=>match ti.agg,ti.ks with
 |false,[.l e]=>(tv E e).bind λte=>bif Li te.ks&&flat E te.ks then(xR e s).bind λ(ex,xs,b)=>(fresh d).bind λ_=>
  .ret (ah (0<=n)&&b_ (xs.length+n.toNat) te.bytes&&ah (n<=9223372036854775807),.own d,oI b++[(dj d,.o (.row e ex (xs++aR te.ks n.toNat)))])else .fail
 |_,_=>.fail
def Sk(E:gy)(e:aN)(x:AV):Rd (aE (aN×e9)):=
 match x with
 |.own nm=>(jP nm).bind λ
  |.row d ex xs=>(tv E e).bind λte=>bif bN e d&&plain te.ks then .ret [(dj nm,.o (.row d ex (aR te.ks xs.length)))]else .fail
  |_=>.fail
 |.vw nm lo hi=>(jP nm).bind λ
  |.row d ex xs=>(tv E e).bind λte=>bif bN e d&&plain te.ks then .ret [(dj nm,.o (.row d ex (xs.take lo++aR te.ks (hi-lo)++xs.drop hi)))]else .fail
  |_=>.fail
 |.nl=>.ret []
 |_=>.fail
def eE(mx:aZ)(a b:az):az:=bif mx then(if b>a then b else a)else(if b<a then b else a)
def yo(mx:aZ):aE fB->tL->az->Rd AV
 |[],k,a=>.ret (.i k a)
 |x::r,k,a=>(Dc x).bind λ(_,b)=>yo mx r k (eE mx a b)
end Go.FG
namespace Go.FG
inductive Src where
 |own (nm e:aN) (ex:aZ)|no
structure Pk where
 a:AA
 src:Src
 rd:aE aN
def AZ(E:gy)(mt:aZ)(a:AV):Rd Pk:=
 match a with
 |.i k n=>.ret ⟨.i k n,.no,[]⟩|.b x=>.ret ⟨.b x,.no,[]⟩|.s x=>.ret ⟨.s x,.no,[]⟩
 |.sh e xs=>.ret ⟨.sh e xs,.no,[]⟩
 |.nl=>.ret ⟨.nl,.no,[]⟩
 |.fn f d=>.ret ⟨.fn f d,.no,[]⟩
 |.own nm=>(jP nm).bind λ
  |.row e ex xs=>bif mt then .ret ⟨.ow e ex xs,.own nm e ex,[]⟩else .ret ⟨.sh e xs,.no,[nm]⟩
  |.f_ e xs=>.ret ⟨.sh e xs,.no,[]⟩
  |_=>.fail
 |.vw nm lo hi=>bif mt then .fail else(jP nm).bind λ
  |.row e _ xs=>.ret ⟨.sh e (ez xs lo hi),.no,[nm]⟩
  |.f_ e xs=>.ret ⟨.sh e (ez xs lo hi),.no,[]⟩
  |_=>.fail
 |.mK nm i j=>(jP nm).bind λ
  |.row e ao xs=>(tv E e).bind λte=>match te.ks[j]? with
   |some (.l h)=>(tv E h).bind λm=>bif plain m.ks&& !mt then .ret ⟨.sh h (jd (av xs i j)),.no,[nm]⟩else .fail
   |_=>.fail
  |_=>.fail
 |_=>.fail
def Dk(E:gy)(mt:aZ):aE AV->Rd (aE Pk)
 |[]=>.ret []
 |a::r=>(AZ E mt a).bind λp=>(Dk E mt r).bind λl=>.ret (p::l)
structure Pa where
 arg:gD
 box:aG (aN×aE AV)
 cs:aE Pk
def adt(E:gy)(mt:aZ)(x:SV):Rd Pa:=
 match x with
 |.v aq [.bp nm 0]=>bif mt then(jP nm).bind λ
  |.box xs=>(Dk E ao xs).bind λl=>.ret ⟨.pt (l.map (·.a)),ai (nm,xs),l⟩
  |_=>.fail
  else .fail
 |.v agg xs=>(Dk E mt xs).bind λl=>.ret ⟨.v agg (l.map (·.a)),ay,l⟩
 |_=>.fail
def Yq:Ck->AV->AV
 |.l e,.nl=>.sh e []
 |_,a=>a
def C_:aE Ck->aE AV->aE AV
 |k::ks,a::r=>Yq k a::C_ ks r
 |_,r=>r
def nlz(E:Tab)(t:aG aN)(v:SV):SV:=
 match t with
 |none=>v
 |some t=>match E.ty t,v with
  |some ti,.v g xs=>.v g (C_ ti.ks xs)
  |_,v=>v
def R9(E:gy)(f:aN)(d:aG (aE aN)):aN->aE fB->Rd (aE Pa)
 |_,[]=>.ret []
 |p,x::r=>(Hp x).bind λv=>(adt E (E.mode f p) (bif E.mode f p then v else nlz E (match d with|some l=>l[p]? |none=>ay) v)).bind λa=>bif e6 a.cs.length 100 then(R9 E f d (p+1) r).bind λl=>.ret (a::l)else .fail
def Pk.uT(p:Pk):aE aN:=match p.src with|.own nm _ _=>[nm]|.no=>[]
def Pa.uT(p:Pa):aE aN:=(match p.box with|some (nm,_)=>[nm]|none=>[])++p.cs.flatMap (·.uT)
def Pa.pb(p:Pa):aE aN:=p.cs.flatMap (·.rd)
def uo:aE aN->aZ
 |[]=>ao|n::r=> !mJ n r&&uo r
def sg:aE aN->aE aN->aZ
 |[],_=>ao|n::r,l=> !mJ n l&&sg r l
def sj(ok:aZ)(nm:aN)(a:AA):Rd (AV×aE (aN×e9)):=
 match a with
 |.i k n=>.ret (.i k n,[])|.b x=>.ret (.b x,[])|.s x=>.ret (.s x,[])|.nl=>.ret (.nl,[])
 |.sh e xs=>bif ok then .ret (.sh e xs,[])else .fail
 |.ow e ex xs=>bif ex||ok then(fresh nm).bind λ_=>.ret (.own nm,[(dj nm,.o (.row e ex xs))])else .fail
 |_=>.fail
def BS(ok:aZ):aN->aE AA->Rd (aE AV×aE (aN×e9))
 |_,[]=>.ret ([],[])
 |nm,a::r=>(sj ok nm a).bind λ(v,w)=>(BS ok (nm+1) r).bind λ(vs,ws)=>.ret (v::vs,w++ws)
def GU(ok:aZ)(nm:aN)(a:gD):Rd ((aZ×aE AV)×aE (aN×e9)):=
 match a with
 |.v agg xs=>(BS ok nm xs).bind λ(vs,ws)=>.ret ((agg,vs),ws)
 |.pt xs=>(BS ok nm xs).bind λ(vs,ws)=>(fresh (nm+30)).bind λ_=>.ret ((aq,[.bp (nm+30) 0]),ws++[(dj (nm+30),.o (.box vs))])
 |.fb _=>.fail
def CD(ok:aZ):aN->aE gD->Rd (aE (aZ×aE AV)×aE (aN×e9))
 |_,[]=>.ret ([],[])
 |nm,a::r=>(GU ok nm a).bind λ(v,w)=>(CD ok (nm+40) r).bind λ(vs,ws)=>.ret (v::vs,w++ws)
def Fs(ok:aZ)(p:Pk)(a:AA):Rd (aE (aN×e9)):=
 match p.src,a with
 |.no,_=>.ret []
 |.own nm e ex,.kp xs=>bif ex||ok then .ret [(dj nm,.o (.row e ex xs))]else .fail
 |.own nm _ _,.nl=>.ret [(dj nm,.o .dead)]
 |_,_=>.fail
def Lv(ok:aZ):aE Pk->aE AA->Rd (aE (aN×e9))
 |[],_=>.ret []
 |p::r,l=>(Fs ok p (l.headD .nl)).bind λw=>(Lv ok r l.tail).bind λws=>.ret (w++ws)
def Dg(ok:aZ)(nm:aN)(p:Pk)(v:AV)(a:AA):Rd (AV×aE (aN×e9)):=
 match p.src,a with
 |.own n e ex,.kp xs=>bif ex||ok then .ret (v,[(dj n,.o (.row e ex xs))])else .fail
 |.own n _ _,a=>(sj ok nm a).bind λ(v,w)=>.ret (v,(dj n,.o .dead)::w)
 |.no,a=>sj ok nm a
def sE(ok:aZ):aN->aE Pk->aE AV->aE AA->Rd (aE AV×aE (aN×e9))
 |_,[],[],[]=>.ret ([],[])
 |nm,p::ps,v::vs,a::as=>(Dg ok nm p v a).bind λ(v,w)=>(sE ok (nm+1) ps vs as).bind λ(vs,ws)=>.ret (v::vs,w++ws)
 |_,_,_,_=>.fail
def TY(ok:aZ)(nm:aN)(p:Pa)(l:aE AA):Rd (aE (aN×e9)):=
 match p.box with
 |some (n,vs)=>(sE ok nm p.cs vs l).bind λ(vs,ws)=>.ret (ws++[(dj n,.o (.box vs))])
 |none=>Lv ok p.cs l
def Lu(ok:aZ):aN->aE Pa->aE (aE AA)->Rd (aE (aN×e9))
 |_,[],_=>.ret []
 |nm,p::r,l=>(TY ok nm p (l.headD [])).bind λw=>(Lu ok (nm+40) r l.tail).bind λws=>.ret (w++ws)
def sZ:aE (aZ×aE AV)->SV
 |[(agg,xs)]=>.v agg xs
 |l=>.kz l
def nB:gD->aN|.v _ xs=>xs.length|.pt xs=>xs.length|.fb _=>0
def SC:aE aN->Rd (aE (aN×e9))
 |[]=>.ret []
 |n::r=>(jP n).bind λ
  |.row e _ xs=>(SC r).bind λws=>.ret ((dj n,.o (.f_ e xs))::ws)
  |_=>.fail
def GX(E:gy)(nm:aN)(o:ia)(f:aN)(args:aE fB)(h:aG (aE aN))(d:aE (aE CV)):Rd tF:=
 (R9 E f h 0 args).bind λps=>
  bif uo (ps.flatMap (·.uT))&&sg (ps.flatMap (·.uT)) (ps.flatMap (·.pb))then
   match E.call f (ps.map (·.arg)++d.map gD.fb)with
   |some (c,r)=>bif e6 ps.length 400&&(r.rs.all λa=>e6 (nB a) 30)&&(r.outs.all λa=>e6 a.length 100)then(SC (bif E.tk nm then ps.flatMap (·.pb)else [])).bind λw0=>
    (Lu (E.tk nm||(ps.flatMap (·.pb)).isEmpty) (nm+400) ps r.outs).bind λw1=>(CD (E.tk nm||(ps.flatMap (·.pb)).isEmpty) (nm+1) r.rs).bind λ(vs,i)=>
    bif uo ((w1++i).map (·.1))then .ret ⟨c,w0++(w1++i)++dw o (sZ vs)⟩else .fail else .fail
   |none=>.fail
  else .fail
def Rd.or{α:Type}:Rd α->Rd α->Rd α
 |.ret a,_=>.ret a
 |.fail,y=>y
 |.get k f,y=>.get k λc=>(f c).or y
def M6(E:gy)(nm:aN)(o:ia)(f:aN)(args:aE fB)(h:aE aN)(d:aE (aE CV)):Rd tF:=
 (GX E nm o f args ay d).or (GX E nm o f args (ai h) d)
def C0(E:gy)(o:ia)(f n i j:aN)(y:fB):Rd tF:=
 (Dc y).bind λ(k,m)=>(jP n).bind λ
  |.row e ao xs=>(tv E e).bind λte=>match te.ks[j]? with
   |some (.l d)=>match E.call f [.v aq [.ow d ao (jd (av xs i j))],.v aq [.i k m]]with
    |some (c,r)=>match r.rs,r.outs with
     |[.v aq [.i h s]],[[.kp t]]=>.ret ⟨c,(dj n,.o (.row e ao (eH xs i j [.l d t])))::dw o (.v aq [.i h s])⟩
     |_,_=>.fail
    |none=>.fail
   |_=>.fail
  |_=>.fail
def Sh:aE fB->Rd (aE (aE CV)×aE (aN×e9))
 |[]=>.ret ([],[])
 |x::r=>(sD x).bind λ
  |.bp nm 0=>(jP nm).bind λ
   |.box xs=>(adD xs).bind λcs=>(Sh r).bind λ(l,ws)=>.ret (cs::l,(dj nm,.o (.ov cs))::ws)
   |.ov cs=>(Sh r).bind λ(l,ws)=>.ret (cs::l,ws)
   |_=>.fail
  |_=>.fail
where adD:aE AV->Rd (aE CV)
 |[]=>.ret []
 |a::r=>(adD r).bind λl=>match a with
  |.i k n=>.ret (.i k n::l)|.b x=>.ret (.b x::l)|.s x=>.ret (.s x::l)
  |.sh e xs=>.ret (.l e xs::l)
  |_=>.fail
def mg(E:gy)(nm:aN)(o:ia):Rd tF:=
 match o.op with
 |.move x|.assign x=>(Hp x).bind λv=>val o v
 |.nilCheck x=>(sD x).bind λp=>match p with
  |.bp nm j=>val o (.v aq [.bp nm j])
  |.rp nm i j=>val o (.v aq [.rp nm i j])
  |_=>.fail
 |.pick c a b=>(sD c).bind λc=>(Hp a).bind λa=>(Hp b).bind λb=>
  match c,a,b with
  |.b c,.v aq [.b p],.v aq [.b q]=>Ay o (.b (bif c then p else q))
  |.b c,.kz [],b=>.ret ⟨!c,dw o b⟩
  |.b c,a,.kz []=>.ret ⟨c,dw o a⟩
  |_,_,_=>.fail
 |.alloc t=>(tv E t).bind λti=>bif Li ti.ks then(fresh nm).bind λ_=>.ret ⟨ao,(dj nm,.o (.box (ti.ks.map DK)))::dw o (.v aq [.bp nm 0])⟩else .fail
 |.box t x=>(Hp x).bind λ
  |.v _ xs=>(fresh nm).bind λ_=>.ret ⟨ao,(dj nm,.o (.box xs))::dw o (.v aq [.bp nm 0])⟩
  |_=>.fail
 |.build t ps=>(tv E t).bind λti=>bif Li ti.ks&&ti.agg then(Hq E t ps.toList).bind λl=>val o (.v ao (Nk (ti.ks.map DK) l))else .fail
 |.buildSlice t n ps=>(tv E t).bind λti=>match ti.agg,ti.ks with
  |false,[.l e]=>(tv E e).bind λte=>bif Li te.ks then(Ng ps.toList).bind λex=>(KH (ex&&flat E te.ks) te.ks ps.toList (aR te.ks n)).bind λ(xs,w)=>(fresh nm).bind λ_=>
   .ret ⟨e6 (n*te.ks.length) 16777216&&uo (w.map (·.1)),w++(dj nm,.o (.row e (ex&&flat E te.ks) xs))::dw o (.v aq [.own nm])⟩else .fail
  |_,_=>.fail
 |.load t p=>(tv E t).bind λti=>(sD p).bind λp=>(uk E ti p).bind λxs=>val o (.v ti.agg xs)
 |.store t p x=>(tv E t).bind λti=>(sD p).bind λp=>(Hp x).bind λ
  |.v _ z=>bif bN z.length ti.ks.length then(U1 E p z).bind λw=>.ret ⟨ao,w++dw o .un⟩else .fail
  |_=>.fail
 |.fieldAddr t p f=>(sD p).bind λp=>(Sw E t f p).bind λq=>Ay o q
 |.field t x f=>(Hp x).bind λ
  |.v ao xs=>match E.fo t f with
   |some (j,n)=>bif E.VD t f&&bN n 1 then(match xs.drop j with|a::_=>Ay o a|[]=>.fail)else .fail
   |none=>.fail
  |_=>.fail
 |.indexAddr t x i=>(qo E t).bind λ
  |.l e=>(sD x).bind λx=>(Dc i).bind λ(_,n)=>(SM E e x n).bind λ(c,q)=>LV o c q
  |_=>.fail
 |.index t x i=>(qo E t).bind λk=>(sD x).bind λx=>(Dc i).bind λ(_,n)=>match k,x with
  |.s,.s a=>LV o (ah (0<=n)&&ah (n<(a.size:az))) (.i .u8 ((a.data.getD n.toNat 0).toNat:az))
  |_,_=>.fail
 |.binOp op t x y _=>(Hp x).bind λx=>(Hp y).bind λy=>(adA E t op x y).bind λ(c,v)=>LV o c v
 |.unOp op _ x=>(sD x).bind λx=>match op,x with
  |.not,.b x=>Ay o (.b (!x))
  |.neg,.i k n=>Ay o (.i k (k.wrap (0-n)))
  |_,_=>.fail
 |.convert src dst x=>(qo E src).bind λks=>(qo E dst).bind λkd=>(sD x).bind λx=>match kd,ks,x with
  |.i k,.i _,.i _ n=>Ay o (.i k (k.wrap n))
  |.s,.s,.s a=>Ay o (.s a)
  |.s,.l h,.nl=>(tv E h).bind λte=>bif u8s te.ks&& !te.agg then Ay o (.s ⟨#[]⟩)else .fail
  |.s,.l h,a=>(mG E a).bind λ(e,xs)=>(tv E e).bind λte=>bif bN e h&&u8s te.ks&& !te.agg then LV o (ah (xs.length<=4611686018427387904)) (.s (bytesOf xs))else .fail
  |_,_,_=>.fail
 |.makeSlice t l c=>(Dc l).bind λ(_,n)=>(Dc c).bind λ(_,m)=>(tv E t).bind λti=>match ti.agg,ti.ks with
  |false,[.l e]=>(tv E e).bind λte=>bif Li te.ks&&flat E te.ks then(fresh (bif plain te.ks then nm else nm+999)).bind λ_=>.ret ⟨ah (0<=n)&&ah (n=m)&&b_ n.toNat te.bytes,(dj (bif plain te.ks then nm else nm+999),.o (.row e ao (aR te.ks n.toNat)))::dw o (.v aq [.own (bif plain te.ks then nm else nm+999)])⟩else .fail
  |_,_=>.fail
 |.slice t x lo hi mx=>match mx with
  |some _=>.fail
  |none=>(qo E t).bind λk=>(sD x).bind λx=>(LJ E k x lo hi).bind λ(c,v)=>LV o c v
 |.extract x i=>(Hp x).bind λ
  |.kz l=>match l[i]? with|some (agg,xs)=>val o (.v agg xs)|none=>.fail
  |_=>.fail
 |.makeFunc (.func f) first d=>bif first.isEmpty then(Sh d.toList).bind λ(l,ws)=>.ret ⟨ao,ws++dw o (.v aq [.fn f l])⟩else .fail
 |.call c=>match c.callee with
  |.builtin .len=>match c.args.toList,c.argTypes.toList with
   |[x],[t]=>(qo E t).bind λk=>(sD x).bind λx=>(aeh E k x).bind λn=>Ay o (.i .i64 n)
   |_,_=>.fail
  |.builtin .cap=>match c.args.toList,c.argTypes.toList with
   |[x],[t]=>(qo E t).bind λ|.l _=>((sD x).bind λ|.nl=>Ay o (.i .i64 0)|_=>.fail)|_=>.fail
   |_,_=>.fail
  |.builtin .min=>match c.args.toList with
   |x::r=>(Dc x).bind λ(k,n)=>(yo aq r k n).bind λv=>Ay o v
   |_=>.fail
  |.builtin .max=>match c.args.toList with
   |x::r=>(Dc x).bind λ(k,n)=>(yo ao r k n).bind λv=>Ay o v
   |_=>.fail
  |.builtin .clear=>match c.args.toList with
   |[x]=>match c.argTypes.toList with
    |[t]=>(qo E t).bind λ|.l e=>((sD x).bind λx=>(Sk E e x).bind λw=>.ret ⟨ao,w++dw o (.kz [])⟩)|_=>.fail
    |_=>.fail
   |_=>.fail
  |.builtin .append=>match c.args.toList,c.argTypes.toList with
   |[s,x],[t,u]=>(qo E u).bind λA=>(sD s).bind λs=>(sD x).bind λx=>match A,x with
    |.i _,.i _ n=>(Vi E nm t s n).bind λ(b,v,w)=>.ret ⟨b,w++dw o (.v aq [v])⟩
    |.l _,x=>(GQ E nm t s x).bind λ(b,v,w)=>.ret ⟨b,w++dw o (.v aq [v])⟩
    |.s,x=>(GQ E nm t s x).bind λ(b,v,w)=>.ret ⟨b,w++dw o (.v aq [v])⟩
    |_,_=>.fail
   |_,_=>.fail
  |.value f=>(sD f).bind λ
   |.fn f d=>match c.args.toList,d with
    |[x,y],[]=>(Hp x).bind λ
     |.v aq [.mK n i j]=>bif E.mode f 0 then C0 E o f n i j y else M6 E nm o f c.args.toList c.argTypes.toList d
     |_=>M6 E nm o f c.args.toList c.argTypes.toList d
    |_,_=>M6 E nm o f c.args.toList c.argTypes.toList d
   |_=>.fail
  |_=>.fail
 |_=>.fail
inductive Ex where
 |normal|exit (id:aN)|ret
structure Lg where
 rs:aE aN
 ws:aE aN
def Nq{R:Type}(a:AV)(f:AV->R):R:=
 match a with
 |.i k n=>f (.i k n)|.b x=>f (.b x)|.s x=>f (.s x)|.sh e xs=>f (.sh e xs)|.nl=>f .nl|.own n=>f (.own n)|.vw n lo hi=>f (.vw n lo hi)
 |.bp n j=>f (.bp n j)|.rp n i j=>f (.rp n i j)|.sp e xs i j=>f (.sp e xs i j)|.mK n i j=>f (.mK n i j)|.ip n i j h m=>f (.ip n i j h m)|.fn g d=>f (.fn g d)|.fp xs j=>f (.fp xs j)
def G5{R:Type}(a:aZ)(f:aZ->R):R:=match a with|true=>f ao|false=>f aq
def pE{R:Type}:aE AV->(aE AV->R)->R
 |[],f=>f []|a::r,f=>Nq a λa=>pE r λr=>f (a::r)
def G7{R:Type}:aE (aZ×aE AV)->(aE (aZ×aE AV)->R)->R
 |[],f=>f []|(g,xs)::r,f=>G5 g λg=>pE xs λxs=>G7 r λr=>f ((g,xs)::r)
def G6{R:Type}(v:SV)(f:SV->R):R:=
 match v with
 |.v g xs=>G5 g λg=>pE xs λxs=>f (.v g xs)|.kz l=>G7 l λl=>f (.kz l)|.un=>f .un
def KT{R:Type}(o:Obj)(f:Obj->R):R:=
 match o with
 |.box xs=>pE xs λxs=>f (.box xs)|.ov cs=>f (.ov cs)|.row e ex xs=>G5 ex λex=>f (.row e ex xs)|.f_ e xs=>f (.f_ e xs)|.dead=>f .dead
def KS{R:Type}(c:e9)(f:e9->R):R:=
 match c with
 |.v x=>G6 x λx=>f (.v x)|.o x=>KT x λx=>f (.o x)|.jW=>f .jW
def CW{R:Type}:aE (aN×e9)->(aE (aN×e9)->R)->R
 |[],f=>f []|(k,c)::r,f=>KS c λc=>CW r λr=>f ((k,c)::r)
def KR(a:AV)(f:AV->R):Nq a f=f a:=by cases a<;>rfl
def zY(a:aZ)(f:aZ->R):G5 a f=f a:=by cases a<;>rfl
def n_:∀(l:aE AV) (f:aE AV->R),pE l f=f l
 |[],_=>rfl
 |a::r,f=>by simp only[pE,KR,n_ r]
def EY:∀(l:aE (aZ×aE AV)) (f:aE (aZ×aE AV)->R),G7 l f=f l
 |[],_=>rfl
 |(g,xs)::r,f=>by simp only[G7,zY,n_,EY r]
def KU(v:SV)(f:SV->R):G6 v f=f v:=by cases v<;>simp only[G6,zY,n_,EY]
def Pc(v:Obj)(f:Obj->R):KT v f=f v:=by cases v<;>simp only[KT,zY,n_]
def Pb(v:e9)(f:e9->R):KS v f=f v:=by cases v<;>simp only[KS,KU,Pc]
def EZ:∀(l:aE (aN×e9)) (f:aE (aN×e9)->R),CW l f=f l
 |[],_=>rfl
 |(k,c)::r,f=>by simp only[CW,Pb,EZ r]
def ops{R:Type}(E:gy)(j:eN ia)(h:aN):aN->aE ia->St->aE Lg->(St->aE Lg->aG R)->aG R
 |_,[],σ,m,K=>K σ m
 |i,o::rest,σ,m,K=>match o.guard with
  |none=>match (mg E ((h+1)*1000000+i*1000) o).run σ []with
   |some (e,l)=>bif e.cond then CW e.ws (λws=>ops E j h (i+1) rest (wr σ ws) (⟨l,ws.map (·.1)⟩::m) K)else ay
   |none=>ay
  |some (g,k)=>match (j.getD g default).dst with
   |none=>ay
   |some d=>match σ (qP d)with
    |.v (.v aq [.b x])=>
     let f:=λy=>match (mg E ((h+1)*1000000+i*1000) o).run (p_ σ (qP d) (.v (.v aq [.b y]))) []with
      |some (e,l)=>bif e.cond then CW e.ws (λws=>ops E j h (i+1) rest (wr (p_ σ (qP d) (.v (.v aq [.b y]))) ws) (⟨qP d::l,ws.map (·.1)⟩::m) K)else ay
      |none=>ay
     let skip:=λy=>ops E j h (i+1) rest (wr (p_ σ (qP d) (.v (.v aq [.b y]))) (dw o (.kz []))) (⟨[qP d],(dw o (.kz [])).map (·.1)⟩::m) K
     bif x then(bif k then f ao else skip ao)else(bif k then skip aq else f aq)
    |.v (.kz [])=>ops E j h (i+1) rest (wr σ (dw o (.kz []))) (⟨[qP d],(dw o (.kz [])).map (·.1)⟩::m) K
    |_=>ay
def ddA(acc:aE aN):aE aN->aE aN
 |[]=>acc|n::r=>bif mJ n acc then ddA acc r else ddA (n::acc) r
def mU{R:Type}:aE aN->(aE aN->R)->R
 |[],f=>f []|n::r,f=>mU r λr=>f (n::r)
def B3{R:Type}:aE (aE aN)->(aE (aE aN)->R)->R
 |[],f=>f []|n::r,f=>mU n λn=>B3 r λr=>f (n::r)
def o9:∀(l:aE aN) (f:aE aN->R),mU l f=f l
 |[],_=>rfl
 |n::r,f=>by simp only[mU,o9 r]
def CU:∀(l:aE (aE aN)) (f:aE (aE aN)->R),B3 l f=f l
 |[],_=>rfl
 |n::r,f=>by simp only[B3,o9,CU r]
def GY:∀(l acc:aE aN) (x:aN),x∈ddA acc l->x∈acc\/x∈l
 |[],_,_,h=>.inl h
 |n::r,acc,x,h=>by
  unfold ddA at h;cases d:mJ n acc with
  |true=>
   rw[d]at h;rcases GY r acc x h with h|h
   ·exact .inl h
   ·exact .inr (cK _ h)
  |false=>
   rw[d]at h;rcases GY r (n::acc) x h with h|h
   ·rcases cF.1 h with rfl|h
    ·exact .inr cQ
    ·exact .inl h
   ·exact .inr (cK _ h)
def GP:aE (aE aN)->aE ia->aE (aE aN)
 |acc,[]=>acc
 |acc,o::r=>mU (ddA [] (o.after.toList.flatMap λe=>bif mM .any e then e.on::acc.getD e.on []else [])) λx=>GP (acc++[x]) r
def Jq:aN->aE ia->aZ
 |_,[]=>ao
 |i,o::r=>(o.after.toList.all λe=> !Region.binds .any e||Nat.blt e.on i)&&Jq (i+1) r
def CI(a b:Lg):aZ:= !(sg a.ws b.ws&&sg a.ws b.rs&&sg b.ws a.rs)
def BW(an:aE aN)(j:aN)(a:Lg):aN->aE Lg->aZ
 |_,[]=>ao
 |i,b::r=>(mJ i an|| !CI a b)&&BW an j a (i+1) r
def calm:aN->aE (aE aN)->aE Lg->aE Lg->aZ
 |_,_,_,[]=>ao
 |j,an,done,a::r=>BW (an.getD j []) j a 0 done&&calm (j+1) an (done++[a]) r
def B2{R:Type}:aE Lg->(aE Lg->R)->R
 |[],f=>f []|a::r,f=>mU a.rs λrs=>mU a.ws λws=>B2 r λr=>f (⟨rs,ws⟩::r)
def CT:∀(l:aE Lg) (f:aE Lg->R),B2 l f=f l
 |[],_=>rfl
 |n::r,f=>by simp only[B2,o9,CT r]
def M7(an:aE (aE aN))(l:aE Lg):aZ:=B3 an λan=>B2 l λl=>calm 0 an [] l
def Sg(an:aE (aE aN))(l:aE Lg):M7 an l=calm 0 an [] l:=by simp only[M7,CU,CT]
def bP:AV->aE aN
 |.own n=>[n]|.vw n _ _=>[n]|.bp n _=>[n]|.rp n _ _=>[n]|.mK n _ _=>[n]|.ip n _ _ _ _=>[n]|_=>[]
def cX:SV->aE aN
 |.v _ xs=>xs.flatMap bP|.kz l=>l.flatMap λ(_,xs)=>xs.flatMap bP|.un=>[]
def Wc:aE aN->aE aN->aE aN
 |l,[]=>l
 |l,n::r=>mU (bif mJ n l then l else l++[n]) λl=>Wc l r
def slot(σ:St)(n:aN):SV:=match σ (qP n)with|.v x=>x|_=>.un
def aia(σ:St)(nm:aN):aE aN:=match σ (dj nm)with|.o (.box xs)=>xs.flatMap bP|_=>[]
def idx(n:aN):aN->aE aN->aG aN
 |_,[]=>ay|i,m::r=>bif bN n m then ai i else idx n (i+1) r
def enc(f:aZ)(k:aN):aN:=bif f then k*1000+999 else k
def wC(l:aE aN)(n:aN):aG aN:=bif e6 900000000 n then(bif mJ n l then ai n else ay)else(match idx n 0 l with|some k=>ai (enc (z7 n) k)|none=>ay)
def qt(l:aE aN)(a:AV):AV:=
 match a with
 |.own n=>match wC l n with|some k=>.own k|none=>.nl
 |.vw n lo hi=>match wC l n with|some k=>.vw k lo hi|none=>.nl
 |.bp n j=>match wC l n with|some k=>.bp k j|none=>.nl
 |.rp n i j=>match wC l n with|some k=>.rp k i j|none=>.nl
 |.mK n i j=>match wC l n with|some k=>.mK k i j|none=>.nl
 |.ip n i j d f=>match wC l n with|some k=>.ip k i j d f|none=>.nl
 |a=>a
def z_(l:aE aN)(ns:aE aN):aZ:=ns.all λn=>mJ n l
def Fu(l:aE aN)(v:SV):SV:=
 bif z_ l (cX v)then(match v with
 |.v agg xs=>.v agg (xs.map (qt l))|.kz r=>.kz (r.map λ(g,xs)=>(g,xs.map (qt l)))|.un=>.un)else .un
def PZ(l:aE aN)(o:e9):e9:=
 match o with
 |.o (.box xs)=>bif z_ l (xs.flatMap bP)then .o (.box (xs.map (qt l)))else .o .dead
 |.o x=>.o x
 |_=>.o .dead
def eW:aE (aN×e9)->St
 |[],_=>.jW
 |(k,c)::r,n=>bif bN n k then c else eW r n
def wy(σ:St)(l:aE aN):aE aN->aE (aN×e9)
 |[]=>[]|n::r=>match wC l n with|some k=>(dj k,PZ l (σ (dj n)))::wy σ l r|none=>wy σ l r
def KA(keep:aE aN)(σ:St):aE aN:=
 mU (Wc [] (keep.flatMap λn=>cX (slot σ n))) λd=>mU (Wc d (d.flatMap (aia σ))) λl1=>Wc l1 (l1.flatMap (aia σ))
def Kz(keep:aE aN)(σ:St)(l:aE aN):aE (aN×e9):=
 bif e6 l.length 900 then keep.map (λn=>(qP n,.v (Fu l (slot σ n))))++wy σ l l else []
def WQ(x:aN):aZ:=e6 1000000000000000 x
def aaK(x:aN):aN:=(x/1000000)%1000000000
def S7(x:aN):aN:=(x/1000)%1000
def kTy(x:aN):aN:=x%1000
def kNm(x:aN):aN:=800000000+((x/1000)%1000000)*100
def AW{α:Type}(x:aN)(σ:St)(f:St->α):α:=
 match slot σ (aaK x)with
 |.v aq [.bp nm 0]=>match σ (dj nm),σ (dj (kNm x))with
  |.o (.box xs),.jW=>match xs[S7 x]? with
   |some .nl=>pE (xs.set (S7 x) (.own (kNm x))) λd=>f (p_ (p_ σ (dj nm) (.o (.box d))) (dj (kNm x)) (.o (.row (kTy x) ao [])))
   |_=>f σ
  |_,_=>f σ
 |_=>f σ
def NL{α:Type}:aE aN->St->(St->α)->α
 |[],σ,f=>f σ
 |x::r,σ,f=>bif WQ x then AW x σ (λσ=>NL r σ f)else NL r σ f
def KB(keep:aE aN)(σ:St):aE (aN×e9):=NL keep σ λσ=>mU (keep.filter λx=> !WQ x) λkeep=>mU (KA keep σ) λl=>Kz keep σ l
def canon(keep:aE aN)(σ:St):St:=eW (KB keep σ)
def gy.AR(E:gy)(n:aN):aE aN:=(E.keep n).filter λx=>bif WQ x then(match E.ty (kTy x)with|some _=>ao|none=>aq)else ao
def gL:Code->aN
 |.region id _ _=>id|.seq a _=>gL a|.block _ c=>gL c|.scope c=>gL c|_=>0
def Fc{R:Type}(g:St->aG R)(cn:St->St)(K:Ex->St->aG R):Ex->St->aG R
 |.normal,σ=>g (cn σ)
 |e,σ=>K e (cn σ)
def iter{R:Type}(f:St->(Ex->St->aG R)->aG R)(cn:St->St):aN->St->(Ex->St->aG R)->aG R
 |0,_,_=>ay
 |n+1,σ,K=>f σ (Fc (λs=>iter f cn n s K) cn K)
def Pt(f:St->(Ex->St->aG R)->aG R)(cn:St->St)(n:aN)(σ:St)(K:Ex->St->aG R):iter f cn (n+1) σ K=f σ (Fc (λs=>iter f cn n s K) cn K):=rfl
abbrev It(R:Type):=aN->(St->(Ex->St->aG R)->aG R)->(St->St)->aE (aN×e9)->(Ex->St->aG R)->aG R
def ao_{R:Type}(n:aN):It R:=λ_ f cn L K=>iter f cn n (eW L) K
def aoe{R:Type}(f:St->(Ex->St->aG R)->aG R)(K:Ex->St->aG R):Ex->St->aG R
 |.normal,σ=>f σ K
 |e,σ=>K e σ
def amH{R:Type}(id:aN)(K:Ex->St->aG R):Ex->St->aG R
 |.exit j,σ=>bif bN j id then K .normal σ else K (.exit j) σ
 |e,σ=>K e σ
def ub{R:Type}(E:gy)(it:It R):Code->St->(Ex->St->aG R)->aG R
 |.skip,σ,K=>K .normal σ
 |.region id os d,σ,K=>ops E os id 0 os.toList σ [] λσ f=>bif !d||(Jq 0 os.toList&&M7 (GP [] os.toList) f.reverse)then K .normal σ else ay
 |.seq a b,σ,K=>ub E it a σ (aoe (ub E it b) K)
 |.cond c a b,σ,K=>match c with
  |.tmp t=>match σ (qP t)with
   |.v (.v aq [.b x])=>bif x then(ub E it a (p_ σ (qP t) (.v (.v aq [.b ao]))) K)else(ub E it b (p_ σ (qP t) (.v (.v aq [.b aq]))) K)
   |_=>ay
  |_=>ay
 |.block id c,σ,K=>ub E it c σ (amH id K)
 |.loop c,σ,K=>it (gL c) (ub E it c) (canon (E.AR (gL c))) (KB (E.AR (gL c)) σ) K
 |.exit id,σ,K=>K (.exit id) σ
 |.ret,σ,K=>K .ret σ
 |_,_,_=>ay
def j8:Code->aE Code
 |.seq a b=>j8 a++j8 b
 |.cond _ a b=>j8 a++j8 b
 |.block _ c=>j8 c
 |.loop c=>c::j8 c
 |_=>[]
def C2(d:aN):Code->aG Code
 |.seq a b=>match C2 d a with|some r=>ai r|none=>C2 d b
 |.cond _ a b=>match C2 d a with|some r=>ai r|none=>C2 d b
 |.block _ c=>C2 d c
 |.loop c=>bif bN (gL c) d then ai c else C2 d c
 |_=>ay
def bM(F:Func)(d:aN):Code:=((F.body.bind (C2 d)).getD .skip)
end Go.FG
namespace Go.FG
def dU(p j:aN):aN:=900000000+p*1000+j
def lF(nm:aN)(a:AA):AV:=
 match a with
 |.i k n=>.i k n|.b x=>.b x|.s x=>.s x|.sh e xs=>.sh e xs|.nl=>.nl
 |.ow _ _ _=>.own nm|.kp _=>.nl|.fn f d=>.fn f d
def Fb(nm:aN)(a:AA):aE (aN×e9):=match a with|.ow e ex xs=>[(dj nm,.o (.row e ex xs))]|_=>[]
def gC(nm:aN):aE AA->aE AV
 |[]=>[]|a::r=>lF nm a::gC (nm+1) r
def ug(nm:aN):aE AA->aE (aN×e9)
 |[]=>[]|a::r=>Fb nm a++ug (nm+1) r
def sW(p:aN)(a:gD):SV:=
 match a with
 |.v agg xs=>.v agg (gC (dU p 0) xs)
 |.pt _=>.v aq [.bp (dU p 900) 0]
 |.fb xs=>.v aq [.fp xs 0]
def vL(p:aN)(a:gD):aE (aN×e9):=
 match a with
 |.v _ xs=>ug (dU p 0) xs
 |.pt xs=>(dj (dU p 900),.o (.box (gC (dU p 0) xs)))::ug (dU p 0) xs
 |.fb _=>[]
def KZ:aN->aE gD->aE (aN×e9)
 |_,[]=>[]|p,a::r=>(qP p,.v (sW p a))::vL p a++KZ (p+1) r
def inj(args:aE gD):St:=eW (KZ 0 args)
def AQ(E:gy)(e:aN):aZ:=match E.ty e with|some _=>ao|none=>aq
def AP(E:gy)(om:Om)(σ:St)(k:Ck)(a:AV):aG (AA×aE aN×aE aN):=
 match a with
 |.i k n=>ai (.i k n,[],[])|.b x=>ai (.b x,[],[])|.s x=>ai (.s x,[],[])
 |.sh e xs=>match om with|.own _=>ay|_=>ai (.sh e xs,[],[])
 |.nl=>match om with
  |.own e=>bif AQ E e then ai (.ow e ao [],[],[])else ay
  |.sh e=>ai (.sh e [],[],[])
  |.nat=>match k with|.l e=>bif AQ E e then ai (.ow e ao [],[],[])else ay|_=>ai (.nl,[],[])
 |.own nm=>match σ (dj nm)with
  |.o (.row e ex xs)=>match om with|.sh _=>ai (.sh e xs,[],[nm])|_=>ai (.ow e ex xs,[nm],[])
  |.o (.f_ e xs)=>match om with|.own _=>ay|_=>ai (.sh e xs,[],[])
  |_=>ay
 |.vw nm lo hi=>match σ (dj nm)with
  |.o (.row e ex xs)=>match om with|.sh _=>ai (.sh e (ez xs lo hi),[],[nm])|_=>ai (.ow e ex (ez xs lo hi),[nm],[])
  |.o (.f_ e xs)=>match om with|.own _=>ay|_=>ai (.sh e (ez xs lo hi),[],[])
  |_=>ay
 |_=>ay
def ud(E:gy)(q:aN)(σ:St):aN->aE Ck->aE AV->aG (aE AA×aE aN×aE aN)
 |_,_,[]=>ai ([],[],[])
 |j,ks,a::r=>match AP E (E.om q j) σ (ks.headD .o) a,ud E q σ (j+1) ks.tail r with
  |some (x,l,m),ai (xs,ls,ms)=>ai (x::xs,l++ls,m++ms)
  |_,_=>ay
def Nn(E:gy)(q:aN)(σ:St)(ks:aE Ck)(v:SV):aG (gD×aE aN×aE aN):=
 match v with
 |.v aq [.bp nm 0]=>match σ (dj nm)with
  |.o (.box xs)=>match ud E q σ 0 [] xs with|some (l,ns,ms)=>ai (.pt l,nm::ns,ms)|none=>ay
  |_=>ay
 |.v agg xs=>match ud E q σ 0 ks xs with|some (l,ns,ms)=>ai (.v agg l,ns,ms)|none=>ay
 |_=>ay
def Ua(E:gy)(q:aN)(σ:St)(r:ResultVar)(t:aN):aG (gD×aE aN×aE aN):=
 match E.ty t with
 |none=>ay
 |some ti=>match r with
  |.tmp s=>Nn E q σ ti.ks (slot σ s)
  |.cell a f=>match E.ty f,slot σ a with
   |some d,.v aq [.bp nm 0]=>match σ (dj nm)with|.o (.box xs)=>bif bN xs.length d.ks.length then Nn E q σ ti.ks (.v d.agg xs)else ay|_=>ay
   |_,_=>ay
def Dn(E:gy)(σ:St):aN->aE ResultVar->aE aN->aG (aE gD×aE aN×aE aN)
 |_,[],_=>ai ([],[],[])
 |q,r::rs,ts=>match Ua E q σ r (ts.headD 0),Dn E σ (q+1) rs ts.tail with
  |some (a,l,m),ai (as,ls,ms)=>ai (a::as,l++ls,m++ms)
  |_,_=>ay
def JE(a b:aZ):aZ:=bif a then b else !b
def nD(σ:St)(tk:aE aN)(nm:aN)(a:AA):AA×aE aN:=
 match a with
 |.ow e ex _=>bif mJ nm tk then(.nl,[])else(match σ (dj nm)with|.o (.row f d xs)=>bif bN e f&&JE ex d then(.kp xs,[nm])else(.nl,[])|_=>(.nl,[]))
 |_=>(.nl,[])
def qn(σ:St)(tk:aE aN)(nm:aN):aE AA->aE AA×aE aN
 |[]=>([],[])|a::r=>((nD σ tk nm a).1::(qn σ tk (nm+1) r).1,(nD σ tk nm a).2++(qn σ tk (nm+1) r).2)
def ZI(E:gy)(om:Om)(σ:St)(nm:aN)(b:AA)(a:AV):aG (AA×aE aN×aE aN):=
 match om,b,a with
 |.nat,.ow e ex _,.own n=>bif bN n nm then(match σ (dj n)with|.o (.row f d xs)=>bif bN e f&&JE ex d then ai (.kp xs,[n],[])else ay|_=>ay)else AP E om σ .o a
 |_,_,a=>AP E om σ .o a
def GV(E:gy)(q:aN)(σ:St):aN->aE AA->aE AV->aG (aE AA×aE aN×aE aN)
 |_,_,[]=>ai ([],[],[])
 |j,d,a::r=>match ZI E (E.om q j) σ (dU q j) (d.headD .nl) a,GV E q σ (j+1) d.tail r with
  |some (x,l,m),ai (xs,ls,ms)=>ai (x::xs,l++ls,m++ms)
  |_,_=>ay
def SG:aE AA->aZ
 |[]=>aq|.ow _ _ _::_=>ao|_::r=>SG r
def Di(E:gy)(σ:St)(tk:aE aN):aN->aE gD->aG (aE (aE AA)×aE aN×aE aN)
 |_,[]=>ai ([],[],[])
 |p,a::r=>match Di E σ tk (p+1) r with
  |none=>ay
  |some (l,ns,ms)=>match a with
   |.v _ xs=>bif SG xs then ai ((qn σ tk (dU p 0) xs).1::l,(qn σ tk (dU p 0) xs).2++ns,ms)else ai ([]::l,ns,ms)
   |.pt xs=>match σ (dj (dU p 900))with
    |.o (.box vs)=>match GV E p σ 0 xs vs with|some (as,f,d)=>ai (as::l,dU p 900::(f++ns),d++ms)|none=>ay
    |_=>ay
   |.fb _=>ai ([]::l,ns,ms)
def uP:aE (aE AA)->aE (aE AA)
 |[]=>[]
 |x::r=>match x,uP r with|[],[]=>[]|x,r=>x::r
def fin(E:gy)(F:Func)(args:aE gD)(e:Ex)(σ:St):aG iO:=
 match e with
 |.exit _=>ay
 |_=>match Dn E σ 500 F.results.toList F.resultTypes.toList with
  |some (rs,tk,fz)=>match Di E σ (tk++fz) 0 args with
   |some (outs,ns,ms)=>bif uo (tk++ns)&&sg (tk++ns) (fz++ms)&&e6 args.length 500&&(args.all λa=>e6 (nB a) 100)&&(rs.all λa=>e6 (nB a) 100)&&(outs.all λa=>e6 a.length 100)then ai ⟨rs,uP outs⟩else ay
   |none=>ay
  |none=>ay
def body(E:gy)(it:It iO)(F:Func)(args:aE gD):aG iO:=
 match F.body with
 |some c=>ub E it c (inj args) (fin E F args)
 |none=>ay
end Go.FG
namespace Go.FG
structure Pl where
 nil:aZ
 blk:aN
 off:aN
 cap:aN
 n:aN
 sz:aN
def kX(p:Pl):bS:=if p.nil=ao then .slice ay 0 0 else .slice (ai ⟨p.blk,p.off,ay⟩) p.n p.cap
def og(w:cN)(b:aN)(d:eN bS):Prop:=
 ∃t fr,w.heap[b]? =ai (.cells d t fr)/\∀o,o<=d.size->(ah (fr.1<=o)&&ah (o<fr.2))=aq
def Qa:CV->bS
 |.i k n=>.int k n|.b x=>.bool x|.s x=>.string x|.l _ _=>.nilIface
def DS(x:ar):Prop:=x.size<=4611686018427387904
def okC:CV->Prop
 |.s x=>DS x|_=>True
def Sc(u:bS)(x:CV):Prop:=u=Qa x/\okC x
structure gQ where
 P:aN->Pl
 G:aN->aN->aN->Pl
 K:aN->Prop
abbrev ad(b o:aN):Addr:=⟨b,o,ay⟩
inductive Holds (E:Tab) (w:cN) (K:aN->Prop):bS->CV->Prop
 |i (k n):Holds E w K (.int k n) (.i k n)
 |b (x):Holds E w K (.bool x) (.b x)
 |s (x) (h:DS x):Holds E w K (.string x) (.s x)
 |nl (e A c):Holds E w K (.slice A 0 c) (.l e [])
 |l (e xs b o c ti) (U:aN->aN->bS) (ht:E.ty e=ai ti) (hc:xs.length<=c) (hm:c<=maxLen) (hK:K b) (hs:∀y∈xs,y.map CV.kd=ti.ks)
  (hcell:∀i j y x,xs[i]? =ai y->y[j]? =ai x->w.cell? (ad b (o+i*ti.ks.length+j))=ai (U i j))
  (hin:∀i j y x,xs[i]? =ai y->y[j]? =ai x->Holds E w K (U i j) x):Holds E w K (.slice (ai (ad b o)) xs.length c) (.l e xs)
def og.cell(h:og w b d)(o:aN):w.cell? (ad b o)=d[o]? :=by obtain⟨t,fr,h,_⟩:=h;simp[OQ,h]
def og.lt(h:og w b d):b<w.heap.size:=by obtain⟨t,fr,h,_⟩:=h;exact(dD.1 h).1
def og.free(h:og w b d)(i:o<d.size):w.frozen? (ad b o)=false:=by obtain⟨t,fr,h,f⟩:=h;have:=f o (Nat.le_of_lt i);simpa [Y7,h]using this
def og.frame(h:og w b d)(e:w'.heap[b]? =w.heap[b]?):og w' b d:=by obtain⟨t,fr,h,f⟩:=h;exact⟨t,fr,e.trans h,f⟩
def Holds.frame(h:Holds E w K v x)(hw:∀b,K b->w'.heap[b]? =w.heap[b]?)(m:∀b,K b->k b):Holds E w' k v x:=by
 induction h with
 |i=>exact .i _ _
 |b=>exact .b _
 |s x h=>exact .s _ h
 |nl=>exact .nl _ _ _
 |l e xs b o c ti U u r hm f hs d t ih=>exact .l e xs b o c ti U u r hm (m b f) hs (λi j y x h1 h2=>(vG (a:=ad b _) (hw b f)).trans (d i j y x h1 h2)) (λi j y x h1 h2=>ih i j y x h1 h2)
structure jq (w:cN) (p:Pl) (xs:Row) (R:aN->aN->bS->CV->Prop):Prop where
 n:p.n=xs.length
 nil:p.nil=ao->xs=[]/\p.cap=0
 mem:p.nil=aq->∃gW,og w p.blk gW/\p.n<=p.cap/\p.cap<=maxLen/\p.off+p.cap*p.sz<=gW.size/\
  ∀(i:aN) (y:aE CV) (j:aN) (x:CV),xs[i]? =ai y->y[j]? =ai x->∃u:bS,gW[p.off+i*p.sz+j]? =ai u/\R i j u x
def XC(E:Tab)(w:cN)(G:aN->aN->Pl)(i j:aN)(u:bS):CV->Prop
 |.l e d=>u=kX (G i j)/\∃ti,E.ty e=ai ti/\plain ti.ks=ao/\(G i j).sz=ti.ks.length/\(∀y∈d,y.map CV.kd=ti.ks)/\jq w (G i j) d (λ_ _ u x=>Sc u x)
 |x=>Sc u x
def uQ:CV->aZ|.l _ _=>ao|_=>aq
def gn(xs:Row)(i j:aN):Prop:=∃y x,xs[i]? =ai y/\y[j]? =ai x/\uQ x=ao
structure FW (p:Pl) (G:aN->aN->Pl) (xs:Row):Prop where
 out:∀i j,gn xs i j->(G i j).nil=aq->p.nil=aq->(G i j).blk≠p.blk
 one:∀i j i' j',gn xs i j->gn xs i' j'->(G i j).nil=aq->(G i' j').nil=aq->(G i j).blk=(G i' j').blk->i=i'/\j=j'
structure Mw (E:Tab) (w:cN) (c:gQ) (nm e:aN) (ex:aZ) (xs:Row):Prop where
 sh:∃ti,E.ty e=ai ti/\(c.P nm).sz=ti.ks.length/\∀y∈xs,y.map CV.kd=ti.ks
 at_:jq w (c.P nm) xs (λi j u x=>if ex=ao then XC E w (c.G nm) i j u x else Holds E w c.K u x)
 mK:ex=ao->FW (c.P nm) (c.G nm) xs
def FB(E:Tab)(w:cN)(K:aN->Prop)(b:aN)(cs:aE CV):Prop:=
 K b/\∀(q:aN) (x:CV),cs[q]? =ai x->∃u:bS,w.cell? (ad b q)=ai u/\Holds E w K u x
def xQ(p:Pl)(lo hi:aN)(v:bS):Prop:=
 lo<=hi/\hi<=p.n/\(p.nil=ao->v=.slice ay 0 0)/\
 (p.nil=aq->(lo<p.cap/\v=.slice (ai (ad p.blk (p.off+lo*p.sz))) (hi-lo) (p.cap-lo))\/(lo=p.cap/\∃o,o<=p.off+p.cap*p.sz/\v=.slice (ai (ad p.blk o)) 0 0))
def eI(E:Tab)(w:cN)(c:gQ):AV->bS->Prop
 |.i k n,v=>v=.int k n
 |.b x,v=>v=.bool x
 |.s x,v=>v=.string x/\DS x
 |.sh e xs,v=>Holds E w c.K v (.l e xs)
 |.nl,v=>v=.slice ay 0 0
 |.own nm,v=>v=kX (c.P nm)
 |.vw nm lo hi,v=>xQ (c.P nm) lo hi v
 |.bp nm j,v=>v=.pointer (ai (ad (c.P nm).blk j))
 |.rp nm i j,v=>i<(c.P nm).n/\v=.pointer (ai (ad (c.P nm).blk ((c.P nm).off+i*(c.P nm).sz+j)))
 |.sp e xs i j,v=>∃b o cp ti,Holds E w c.K (.slice (ai (ad b o)) xs.length cp) (.l e xs)/\i<xs.length/\E.ty e=ai ti/\v=.pointer (ai (ad b (o+i*ti.ks.length+j)))
 |.mK nm i j,v=>(i<(c.P nm).n/\v=kX (c.G nm i j))/\z7 nm=aq
 |.ip nm i j h m,v=>(i<(c.P nm).n/\h<(c.G nm i j).n/\v=.pointer (ai (ad (c.G nm i j).blk ((c.G nm i j).off+h*(c.G nm i j).sz+m))))/\z7 nm=aq
 |.fn f d,v=>∃ps:eN bS,v=.func (.func f) #[] ps/\ps.size=d.length/\∀(q:aN) (cs:aE CV),d[q]? =ai cs->∃b:aN,ps[q]? =ai (.pointer (ai (ad b 0)))/\FB E w c.K b cs
 |.fp cs j,v=>∃b,v=.pointer (ai (ad b j))/\FB E w c.K b cs
def qG(E:Tab)(w:cN)(c:gQ)(agg:aZ)(xs:aE AV)(v:bS):Prop:=
 match agg,xs with
 |false,[a]=>eI E w c a v
 |true,xs=>∃d:eN bS,v=.agg d/\d.size=xs.length/\∀(j:aN) (a:AV),xs[j]? =ai a->∃u:bS,d[j]? =ai u/\eI E w c a u
 |_,_=>False
def jb(E:Tab)(w:cN)(c:gQ):SV->bS->Prop
 |.v agg xs,v=>qG E w c agg xs v
 |.kz l,v=>∃vs:eN bS,v=.tuple vs/\vs.size=l.length/\∀(j:aN) (agg:aZ) (xs:aE AV),l[j]? =ai (agg,xs)->∃u:bS,vs[j]? =ai u/\qG E w c agg xs u
 |.un,_=>True
def qf(E:Tab)(w:cN)(c:gQ)(nm:aN):Obj->Prop
 |.box xs=>∃d,og w (c.P nm).blk d/\d.size=xs.length/\∀(j:aN) (a:AV),xs[j]? =ai a->∃u:bS,d[j]? =ai u/\eI E w c a u
 |.ov cs=>FB E w c.K (c.P nm).blk cs
 |.row e ex xs=>Mw E w c nm e ex xs
 |.f_ e xs=>Holds E w c.K (kX (c.P nm)) (.l e xs)/\(c.P nm).n=xs.length/\∃ti,E.ty e=ai ti/\(c.P nm).sz=ti.ks.length
 |.dead=>True
def fN(c:gQ)(nm:aN):Obj->aN->Prop
 |.box _,b=>b=(c.P nm).blk
 |.row _ ex xs,b=>((c.P nm).nil=aq/\b=(c.P nm).blk)\/(ex=ao/\∃i j,gn xs i j/\(c.G nm i j).nil=aq/\b=(c.G nm i j).blk)
 |_,_=>False
def Own(σ:St)(c:gQ)(b:aN):Prop:=∃nm o,σ (dj nm)=.o o/\fN c nm o b
def jm(σ:St)(a:AV):Prop:=∀n∈bP a,σ (dj n)≠ .jW
def mN(σ:St)(v:SV):Prop:=∀n∈cX v,σ (dj n)≠ .jW
structure Ok (E:Tab) (σ:St) (w:cN) (c:gQ):Prop where
 obj:∀nm o,σ (dj nm)=.o o->qf E w c nm o
 sep:∀nm o nm' o' b,σ (dj nm)=.o o->σ (dj nm')=.o o'->fN c nm o b->fN c nm' o' b->nm=nm'
 kk:∀nm o b,σ (dj nm)=.o o->fN c nm o b->¬c.K b
 lt:∀b,c.K b->b<w.heap.size
 kn:∀nm xs,σ (dj nm)=.o (.box xs)->∀a∈xs,jm σ a
 gp:E.gp.f w c.K
structure fw (E:Tab) (σ:St) (a:Act) (w:cN) (c:gQ):Prop where
 ok:∀n,jb E w c (slot σ n) (a.eval (.tmp n))
 kn:∀n,mN σ (slot σ n)
 df:a.defers=[]
def jK(σ:St)(c c':gQ):Prop:=∀nm,(σ (dj nm)≠ .jW\/900000000<=nm)->c'.P nm=c.P nm/\c'.G nm=c.G nm
def rN(σ:St)(c c':gQ):Prop:=∀nm,(σ (dj nm)≠ .jW\/900000000<=nm)->c'.P nm=c.P nm/\(z7 nm=aq->c'.G nm=c.G nm)
def jK.w(h:jK σ c c'):rN σ c c':=λnm d=>⟨(h nm d).1,λ_=>(h nm d).2⟩
structure Grow (σ:St) (c:gQ) (w:cN) (σ':St) (c':gQ) (w':cN):Prop where
 os:w'.os=w.os
 tape:w'.tape=w.tape
 output:w'.output=w.output
 size:w.heap.size<=w'.heap.size
 K:∀b,c.K b->c'.K b
 same:∀b,b<w.heap.size->¬Own σ c b->w'.heap[b]? =w.heap[b]?
 own:∀b,Own σ' c' b->Own σ c b\/w.heap.size<=b
 kn:∀b,c'.K b->c.K b\/Own σ c b\/w.heap.size<=b
def Own.lt(h:Ok E σ w c)(C:Own σ c b):b<w.heap.size:=by
 obtain⟨nm,o,h1,h2⟩:=C;have d:=h.obj nm o h1;cases o with
 |box xs=>obtain⟨f,k,_⟩:=d;cases h2;exact k.lt
 |ov=>exact h2.elim
 |f_=>exact h2.elim
 |dead=>exact h2.elim
 |row e ex xs=>
  rcases h2 with ⟨t,rfl⟩|⟨r,i,j,⟨y,x,A,K,hl⟩,t,rfl⟩
  ·obtain⟨f,k,_⟩:=d.at_.mem t;exact k.lt
  ·by_cases hp:(c.P nm).nil=ao
   ·have:=(d.at_.nil hp).1;subst this;simp at A
   ·obtain⟨f,k,_,_,_,B⟩:=d.at_.mem (by simpa using hp);obtain⟨u,_,z⟩:=B i y j x A K;rw[bm r]at z;cases x with
    |l M O=>obtain⟨_,ti,_,_,_,_,H⟩:=z;obtain⟨N,m,_⟩:=H.mem t;exact m.lt
    |i=>simp[uQ]at hl
    |b=>simp[uQ]at hl
    |s=>simp[uQ]at hl
def Ok.Hk(h:Ok E σ w c)(d:Own σ c b):¬c.K b:=by obtain⟨nm,o,h1,h2⟩:=d;exact h.kk nm o b h1 h2
def Grow.refl(σ:St)(c:gQ)(w:cN):Grow σ c w σ c w:=
 ⟨rfl,rfl,rfl,bW _,λ_ h=>h,λ_ _ _=>rfl,λ_ h=>.inl h,λ_ h=>.inl h⟩
def Grow.trans(h:Grow σ c w σ1 i w1)(k:Grow σ1 i w1 σ2 c2 m):Grow σ c w σ2 c2 m where
 os:=k.os.trans h.os
 tape:=k.tape.trans h.tape
 output:=k.output.trans h.output
 size:=ca h.size k.size
 K b d:=k.K b (h.K b d)
 same b d f:=(k.same b (jV d h.size) (λj=>(h.own b j).elim f (λh=>by omega))).trans (h.same b d f)
 own b d:=(k.own b d).elim (h.own b) (λh1=>.inr (ca h.size h1))
 kn b d:=by
  rcases k.kn b d with h1|h1|h1
  ·exact h.kn b h1
  ·exact .inr (h.own b h1)
  ·exact .inr (.inr (ca h.size h1))
def Grow.Y9(d:Ok E σ w c)(h:Grow σ c w σ' c' w'):∀b,c.K b->w'.heap[b]? =w.heap[b]? :=
 λb f=>h.same b (d.lt b f) (λi=>d.Hk i f)
def FB.frame(h:FB E w K b cs)(hw:∀b,K b->w'.heap[b]? =w.heap[b]?)(d:∀b,K b->f b):FB E w' f b cs:=
 ⟨d b h.1,λq x hq=>by
  obtain⟨u,j,i⟩:=h.2 q x hq;exact⟨u,(vG (a:=ad b q) (hw b h.1)).trans j,i.frame hw d⟩⟩
def eI.pF(h:eI E w c a v)(hw:∀b,c.K b->w'.heap[b]? =w.heap[b]?)(k:∀b,c.K b->c'.K b)
  (d:∀n∈bP a,c'.P n=c.P n/\(z7 n=aq->c'.G n=c.G n)):eI E w' c' a v:=by
 cases a with
 |i=>exact h
 |b=>exact h
 |s=>exact h
 |nl=>exact h
 |sh e xs=>exact Holds.frame h hw k
 |own n=>have:=d n (by simp[bP]);simp only[eI,this.1]at h⊢;exact h
 |vw n lo hi=>have:=d n (by simp[bP]);simp only[eI,this.1]at h⊢;exact h
 |bp n j=>have:=d n (by simp[bP]);simp only[eI,this.1]at h⊢;exact h
 |rp n i j=>have:=d n (by simp[bP]);simp only[eI,this.1]at h⊢;exact h
 |mK n i j=>have h0:=d n (by simp[bP]);have this:=h0.2 h.2;simp only[eI,h0.1,this]at h⊢;exact h
 |ip n i j u x=>have h0:=d n (by simp[bP]);have this:=h0.2 h.2;simp only[eI,h0.1,this]at h⊢;exact h
 |sp e xs i j=>obtain⟨b,o,cp,ti,h1,h2,h3,h4⟩:=h;exact⟨b,o,cp,ti,h1.frame hw k,h2,h3,h4⟩
 |fn f m=>obtain⟨ps,h1,h2,h3⟩:=h;exact⟨ps,h1,h2,λq cs hq=>by obtain⟨b,r,t⟩:=h3 q cs hq;exact⟨b,r,t.frame hw k⟩⟩
 |fp cs j=>obtain⟨b,h1,h2⟩:=h;exact⟨b,h1,h2.frame hw k⟩
def qG.pF(h:qG E w c agg xs v)(hw:∀b,c.K b->w'.heap[b]? =w.heap[b]?)(i:∀b,c.K b->c'.K b)
  (k:∀n∈xs.flatMap bP,c'.P n=c.P n/\(z7 n=aq->c'.G n=c.G n)):qG E w' c' agg xs v:=by
 unfold qG at h⊢;split at h
 ·rename_i a;exact eI.pF h hw i (λn f=>k n (by simpa using f))
 ·obtain⟨d,h1,h2,h3⟩:=h;refine⟨d,h1,h2,λj a m=> ?_⟩
  obtain⟨u,r,s⟩:=h3 j a m;exact⟨u,r,s.pF hw i (λn f=>k n (bL.2 ⟨a,aU m,f⟩))⟩
 ·exact h.elim
def jb.pF(h:jb E w c s v)(hw:∀b,c.K b->w'.heap[b]? =w.heap[b]?)(d:∀b,c.K b->c'.K b)
  (f:∀n∈cX s,c'.P n=c.P n/\(z7 n=aq->c'.G n=c.G n)):jb E w' c' s v:=by
 cases s with
 |un=>trivial
 |v agg xs=>exact qG.pF h hw d f
 |kz l=>
  obtain⟨vs,h1,h2,h3⟩:=h;refine⟨vs,h1,h2,λj agg xs i=> ?_⟩
  obtain⟨u,m,r⟩:=h3 j agg xs i;exact⟨u,m,r.pF hw d (λn k=>f n (bL.2 ⟨(agg,xs),aU i,k⟩))⟩
def eI.frame(h:eI E w c a v)(hw:∀b,c.K b->w'.heap[b]? =w.heap[b]?)(i:∀b,c.K b->c'.K b)
  (d:∀n∈bP a,c'.P n=c.P n/\c'.G n=c.G n):eI E w' c' a v:=h.pF hw i (λn f=>⟨(d n f).1,λ_=>(d n f).2⟩)
def qG.frame(h:qG E w c agg xs v)(hw:∀b,c.K b->w'.heap[b]? =w.heap[b]?)(i:∀b,c.K b->c'.K b)
  (d:∀n∈xs.flatMap bP,c'.P n=c.P n/\c'.G n=c.G n):qG E w' c' agg xs v:=h.pF hw i (λn f=>⟨(d n f).1,λ_=>(d n f).2⟩)
def jb.frame(h:jb E w c s v)(hw:∀b,c.K b->w'.heap[b]? =w.heap[b]?)(i:∀b,c.K b->c'.K b)
  (d:∀n∈cX s,c'.P n=c.P n/\c'.G n=c.G n):jb E w' c' s v:=h.pF hw i (λn f=>⟨(d n f).1,λ_=>(d n f).2⟩)
def jq.frame(h:jq w p xs R)(hw:p.nil=aq->w'.heap[p.blk]? =w.heap[p.blk]?)
  (r:∀i j y x u,xs[i]? =ai y->y[j]? =ai x->R i j u x->R' i j u x):jq w' p xs R' where
 n:=h.n
 nil:=h.nil
 mem k:=by
  obtain⟨d,h1,h2,h3,h4,m⟩:=h.mem k;refine⟨d,h1.frame (hw k),h2,h3,h4,λi y j x hi f=> ?_⟩
  obtain⟨u,t,s⟩:=m i y j x hi f;exact⟨u,t,r i j y x u hi f s⟩
def XC.frame(h:XC E w G i j u x)(hw:uQ x=ao->(G i j).nil=aq->w'.heap[(G i j).blk]? =w.heap[(G i j).blk]?):XC E w' G i j u x:=by
 cases x with
 |l e f=>obtain⟨h1,ti,h2,h3,h4,d,h6⟩:=h;exact⟨h1,ti,h2,h3,h4,d,h6.frame (hw rfl) (λ_ _ _ _ _ _ _ h=>h)⟩
 |i=>exact h
 |b=>exact h
 |s=>exact h
def qf.frame(h:qf E w c nm o)(hw:∀b,c.K b->w'.heap[b]? =w.heap[b]?)(k:∀b,c.K b->c'.K b)
  (t:∀b,fN c nm o b->w'.heap[b]? =w.heap[b]?) (d:c'.P nm=c.P nm/\c'.G nm=c.G nm)
  (s:∀xs,o=.box xs->∀a∈xs,∀n∈bP a,c'.P n=c.P n/\(z7 n=aq->c'.G n=c.G n)):qf E w' c' nm o:=by
 cases o with
 |dead=>trivial
 |box xs=>
  obtain⟨f,h1,h2,h3⟩:=h;refine⟨f,?_,h2,λj a m=> ?_⟩
  ·rw[d.1];exact h1.frame (t _ rfl)
  ·obtain⟨u,B,C⟩:=h3 j a m;exact⟨u,B,C.pF hw k (s xs rfl a (aU m))⟩
 |ov cs=>show FB E w' c'.K (c'.P nm).blk cs;rw[d.1];exact FB.frame h hw k
 |f_ e xs=>
  obtain⟨h1,h2,h3⟩:=h;refine⟨?_,?_,?_⟩
  ·rw[d.1];exact h1.frame hw k
  ·rw[d.1];exact h2
  ·rw[d.1];exact h3
 |row e ex xs=>
  obtain⟨h1,h2,h3⟩:=h;refine⟨by rw[d.1];exact h1,?_,by rw[d.1,d.2];exact h3⟩
  rw[d.1,d.2];refine h2.frame (λz=>t _ (.inl ⟨z,rfl⟩)) (λi j y x u hi m r=> ?_);by_cases A:ex=ao
  ·rw[bm A]at r⊢;exact r.frame (λhl z=>t _ (.inr ⟨A,i,j,⟨y,x,hi,m,hl⟩,z,rfl⟩))
  ·rw[bk A]at r⊢;exact r.frame hw k
end Go.FG
namespace Go.FG
def uE(s:St)(k:aN)(c:e9):p_ s k c k=c:=by simp[p_]
def Ax(s:St)(c:e9)(h:n≠k):p_ s k c n=s n:=by
 have:bN n k=false:=by
  cases d:bN n k with
  |false=>rfl
  |true=>exact cO (aX d) h
 simp[p_,this]
def sM(n m:aN):qP n≠dj m:=by unfold qP dj;omega
def mq(n m:aN):dj n≠qP m:=by unfold qP dj;omega
def HG(h:qP n=qP m):n=m:=by unfold qP at h;omega
def j9(h:dj n=dj m):n=m:=by unfold dj at h;omega
def JP(s:St)(d:aN)(c:e9)(m:aN):p_ s (qP d) c (dj m)=s (dj m):=Ax s c (mq m d)
def qv(s:St)(n:aN)(c:e9)(m:aN):p_ s (dj n) c (dj m)=if m=n then c else s (dj m):=by
 by_cases h:m=n
 ·subst h;simp[uE]
 ·rw[bk h];exact Ax s c (λe=>h (j9 e))
def jv(s:St)(n:aN)(c:e9)(m:aN):slot (p_ s (dj n) c) m=slot s m:=by unfold slot;rw[Ax s c (sM m n)]
def yI(s:St)(d:aN)(v:SV)(m:aN):slot (p_ s (qP d) (.v v)) m=if m=d then v else slot s m:=by
 by_cases h:m=d
 ·subst h;simp[slot,uE]
 ·rw[bk h];unfold slot;rw[Ax s _ (λe=>h (HG e))]
def Qd(s:St)(l r:aE (aN×e9)):wr s (l++r)=wr (wr s l) r:=by
 induction l generalizing s with
 |nil=>rfl
 |cons a l ih=>obtain⟨k,c⟩:=a;exact ih _
def Rd.val{α:Type}(m:Rd α)(σ:St):aG α:=(m.run σ []).map (·.1)
def lD(m:Rd α)(σ:St):∀l,(m.run σ l).map (·.1)=m.val σ:=by
 induction m with
 |ret a=>intro l;rfl
 |fail=>intro l;rfl
 |get k f ih=>intro l;simp only[Rd.run,Rd.val];rw[ih,ih]
def Rd.LX{α:Type}{m:Rd α}{σ:St}{l d:aE aN}{a:α}(h:m.run σ l=ai (a,d)):m.val σ=ai a:=by rw[<-lD m σ l,h];rfl
@[simp] theorem Rd.als {α:Type} (a:α) (σ:St):(Rd.ret a).val σ=some a:=rfl
@[simp] theorem Rd.akL {α:Type} (σ:St):(Rd.fail:Rd α).val σ=none:=rfl
@[simp] theorem Rd.Cd {α:Type} (k:Nat) (f:e9->Rd α) (σ:St):(Rd.get k f).val σ=(f (σ k)).val σ:=by
 simp only[Rd.val,Rd.run];exact(lD (f (σ k)) σ [k])
@[simp] theorem Rd.Va {α β:Type} (m:Rd α) (f:α->Rd β) (σ:St):(m.bind f).val σ=(m.val σ).bind λa=>(f a).val σ:=by
 induction m with
 |ret a=>rfl
 |fail=>rfl
 |get k g ih=>simp only[Rd.bind,Rd.Cd];exact ih _
def bu{α β:Type}{m:Rd α}{f:α->Rd β}{σ:St}{b:β}(h:(m.bind f).val σ=ai b):∃a,m.val σ=ai a/\(f a).val σ=ai b:=by rw[Rd.Va,Option.bind_eq_some_iff]at h;exact h
def cZ(h:(bif b then m else Rd.fail).val σ=ai a):b=ao/\m.val σ=ai a:=by
 cases b with
 |true=>exact⟨rfl,h⟩
 |false=>simp at h
def kh(d:aN->Prop)(σ:St)(c:gQ)(b:aN):Prop:=∃nm o,d nm/\σ (dj nm)=.o o/\fN c nm o b
def kh.own(h:kh d σ c b):Own σ c b:=by obtain⟨nm,o,_,h1,h2⟩:=h;exact⟨nm,o,h1,h2⟩
def mn(h:c'.P nm=c.P nm/\c'.G nm=c.G nm)(b:aN):fN c' nm o b=fN c nm o b:=by cases o<;>simp only[fN,h.1,h.2]
def Ok.xU(h:Ok E σ w c)(j:aN->Prop)
  (hσ:∀nm,¬j nm->σ' (dj nm)=σ (dj nm)) (X:∀nm,σ (dj nm)≠ .jW->σ' (dj nm)≠ .jW) (hA:rN σ c c') (O:∀nm,¬j nm->σ (dj nm)≠ .jW->c'.G nm=c.G nm)
  (hW:∀b,b<w.heap.size->¬kh j σ c b->w'.heap[b]? =w.heap[b]?) (he:w.heap.size<=w'.heap.size)
  (Q:∀b,c.K b->c'.K b) (C:∀b,c'.K b->c.K b\/kh j σ c b\/w.heap.size<=b) (H:∀b,c'.K b->b<w'.heap.size)
  (h5:∀nm o,j nm->σ' (dj nm)=.o o->qf E w' c' nm o)
  (A:∀nm o b,j nm->σ' (dj nm)=.o o->fN c' nm o b->(kh j σ c b\/w.heap.size<=b)/\¬c'.K b)
  (h9:∀nm o d o' b,j nm->j d->σ' (dj nm)=.o o->σ' (dj d)=.o o'->fN c' nm o b->fN c' d o' b->nm=d)
  (V:∀nm xs,j nm->σ' (dj nm)=.o (.box xs)->∀a∈xs,jm σ' a)
  (h7:w'.os=w.os) (B:w'.tape=w.tape) (N:w'.output=w.output):Ok E σ' w' c'/\Grow σ c w σ' c' w':=by
 have r:∀nm o b,¬j nm->σ (dj nm)=.o o->fN c nm o b->¬kh j σ c b:=by intro nm o b i f k ⟨hh,o2,S,Y,U⟩;exact i (h.sep nm o hh o2 b f Y k U▸S)
 have s:∀nm o,¬j nm->σ' (dj nm)=.o o->σ (dj nm)=.o o/\(c'.P nm=c.P nm/\c'.G nm=c.G nm):=by intro nm o i f;rw[hσ nm i]at f;exact⟨f,(hA nm (.inl (by rw[f];simp))).1,O nm i (by rw[f];simp)⟩
 have x:∀b,c.K b->w'.heap[b]? =w.heap[b]? :=λb z=>hW b (h.lt b z) (λhi=>h.Hk hi.own z);have lt:∀nm o b,σ (dj nm)=.o o->fN c nm o b->b<w.heap.size:=λnm o b f k=>Own.lt h ⟨nm,o,f,k⟩;refine⟨⟨?_,?_,?_,H,?_,E.gp.fr h.gp x Q⟩,⟨h7,B,N,he,Q,?_,?_,?_⟩⟩
 ·intro nm o f;by_cases i:j nm
  ·exact h5 nm o i f
  ·obtain⟨m,y⟩:=s nm o i f;refine(h.obj nm o m).frame x Q (λb z=>hW b (lt nm o b m z) (r nm o b i m z)) y ?_;intro xs hx a hm n M;exact hA n (.inl (h.kn nm xs (hx▸m) a hm n M))
 ·intro nm o d o' b f m k t;by_cases i:j nm
  ·by_cases u:j d
   ·exact h9 nm o d o' b i u f m k t
   ·obtain⟨h1,y⟩:=s d o' u m;rw[mn y]at t;rcases(A nm o b i f k).1 with hi|hi
    ·exact cO hi (r d o' b u h1 t)
    ·have:=lt d o' b h1 t;omega
  ·obtain⟨h1,y⟩:=s nm o i f;rw[mn y]at k;by_cases u:j d
   ·rcases(A d o' b u m t).1 with hi|hi
    ·exact cO hi (r nm o b i h1 k)
    ·have:=lt nm o b h1 k;omega
   ·obtain⟨h2,R⟩:=s d o' u m;rw[mn R]at t;exact h.sep nm o d o' b h1 h2 k t
 ·intro nm o b f k;by_cases i:j nm
  ·exact(A nm o b i f k).2
  ·obtain⟨h1,y⟩:=s nm o i f;rw[mn y]at k;intro hk;rcases C b hk with h2|h2|h2
   ·exact h.kk nm o b h1 k h2
   ·exact r nm o b i h1 k h2
   ·have:=lt nm o b h1 k;omega
 ·intro nm xs f a hm;by_cases i:j nm
  ·exact V nm xs i f a hm
  ·obtain⟨h1,_⟩:=s nm _ i f;intro n M;exact X n (h.kn nm xs h1 a hm n M)
 ·intro b z M;exact hW b z (λhi=>M hi.own)
 ·rintro b ⟨nm,o,f,k⟩;by_cases i:j nm
  ·exact(A nm o b i f k).1.imp kh.own id
  ·obtain⟨h1,y⟩:=s nm o i f;rw[mn y]at k;exact .inl ⟨nm,o,h1,k⟩
 ·intro b z;rcases C b z with h2|h2|h2
  ·exact .inl h2
  ·exact .inr (.inl h2.own)
  ·exact .inr (.inr h2)
def Ok.change(h:Ok E σ w c)(d:aN->Prop)
  (hσ:∀nm,¬d nm->σ' (dj nm)=σ (dj nm)) (t:∀nm,σ (dj nm)≠ .jW->σ' (dj nm)≠ .jW) (A:jK σ c c')
  (hW:∀b,b<w.heap.size->¬kh d σ c b->w'.heap[b]? =w.heap[b]?) (z:w.heap.size<=w'.heap.size)
  (B:∀b,c.K b->c'.K b) (m:∀b,c'.K b->c.K b\/kh d σ c b\/w.heap.size<=b) (j:∀b,c'.K b->b<w'.heap.size)
  (u:∀nm o,d nm->σ' (dj nm)=.o o->qf E w' c' nm o)
  (r:∀nm o b,d nm->σ' (dj nm)=.o o->fN c' nm o b->(kh d σ c b\/w.heap.size<=b)/\¬c'.K b)
  (y:∀nm o f o' b,d nm->d f->σ' (dj nm)=.o o->σ' (dj f)=.o o'->fN c' nm o b->fN c' f o' b->nm=f)
  (s:∀nm xs,d nm->σ' (dj nm)=.o (.box xs)->∀a∈xs,jm σ' a)
  (x:w'.os=w.os) (i:w'.tape=w.tape) (k:w'.output=w.output):Ok E σ' w' c'/\Grow σ c w σ' c' w':=
 h.xU d hσ t A.w (λnm _ C=>(A nm (.inl C)).2) hW z B m j u r y s x i k
def Ok.slot(h:Ok E σ w c)(hσ:∀nm,σ' (dj nm)=σ (dj nm)):Ok E σ' w c/\Grow σ c w σ' c w:=by
 refine⟨⟨λnm o d=>h.obj nm o (hσ nm▸d),λnm o f o' b h1 h2=>h.sep nm o f o' b (hσ nm▸h1) (hσ f▸h2),λnm o b h1=>h.kk nm o b (hσ nm▸h1),h.lt,λnm xs d a hm n j=>by rw[hσ];exact h.kn nm xs (hσ nm▸d) a hm n j,h.gp⟩,
  ⟨rfl,rfl,rfl,bW _,λ_ h=>h,λ_ _ _=>rfl,λb ⟨nm,o,d,i⟩=>.inl ⟨nm,o,hσ nm▸d,i⟩,λ_ h=>.inl h⟩⟩
def Eg(a:Act)(d:aN)(v:bS)(h:d<a.tmps.size):(a.put (ai d) v).eval (.tmp d)=v:=by simp[Vl,Ie,h]
def IW(a:Act)(d n:aN)(v:bS)(h:n≠d):(a.put (ai d) v).eval (.tmp n)=a.eval (.tmp n):=by simp only[Vl,Ie,eM,oC];rw[bk (λe=>h e.symm)]
def fw.xU(h:fw E σ a w c)(r:Ok E σ w c)(s:Grow σ c w σ' c' w')(t:rN σ c c')(k:∀nm,σ (dj nm)≠ .jW->σ' (dj nm)≠ .jW)
  (o:ia) (v:bS) (hs:∀n,o.dst≠ai n->slot σ' n=slot σ n) (hd:∀d,o.dst=ai d->d<a.tmps.size/\jb E w' c' (slot σ' d) v/\mN σ' (slot σ' d)):fw E σ' (a.put o.dst v) w' c':=by
 have keep:∀n,jb E w' c' (slot σ n) (a.eval (.tmp n)):=λn=>(h.ok n).pF (s.Y9 r) s.K (λm hm=>t m (.inl (h.kn n m hm)));have f:∀n,mN σ' (slot σ n):=λn m hm=>k m (h.kn n m hm);cases j:o.dst with
 |none=>
  refine⟨λn=> ?_,λn=> ?_,h.df⟩
  ·rw[hs n (by simp[j])];exact keep n
  ·rw[hs n (by simp[j])];exact f n
 |some d=>
  obtain⟨h1,h2,h3⟩:=hd d j;refine⟨λn=> ?_,λn=> ?_,h.df⟩
  ·by_cases i:n=d
   ·subst i;rw[Eg a n v h1];exact h2
   ·rw[IW a d n v i,hs n (by rw[j];simpa using λe=>i e.symm)];exact keep n
  ·by_cases i:n=d
   ·subst i;exact h3
   ·rw[hs n (by rw[j];simpa using λe=>i e.symm)];exact f n
def fw.change(h:fw E σ a w c)(i:Ok E σ w c)(k:Grow σ c w σ' c' w')(j:jK σ c c')(f:∀nm,σ (dj nm)≠ .jW->σ' (dj nm)≠ .jW)
  (o:ia) (v:bS) (hs:∀n,o.dst≠ai n->slot σ' n=slot σ n) (hd:∀d,o.dst=ai d->d<a.tmps.size/\jb E w' c' (slot σ' d) v/\mN σ' (slot σ' d)):fw E σ' (a.put o.dst v) w' c':=
 h.xU i k j.w f o v hs hd
def sN(σ:St)(o:ia)(v:SV):(∀n,o.dst≠ai n->slot (wr σ (dw o v)) n=slot σ n)/\(∀d,o.dst=ai d->slot (wr σ (dw o v)) d=v)/\∀nm,wr σ (dw o v) (dj nm)=σ (dj nm):=by
 cases f:o.dst with
 |none=>simp[dw,f,wr]
 |some d=>
  refine⟨λn h=> ?_,λi hd=> ?_,λnm=> ?_⟩
  ·simp only[dw,f,wr];rw[yI,bk (by rintro rfl;exact h rfl)]
  ·cases hd;simp only[dw,f,wr];rw[yI,bm rfl]
  ·simp only[dw,f,wr];exact JP _ _ _ _
end Go.FG
namespace Go.FG
def iM:Ck->bS
 |.i k=>.int k 0|.b=>.bool aq|.s=>.string ⟨#[]⟩|.l _=>.slice ay 0 0|.o=>.nilIface
def l_:AV->bS
 |.i k n=>.int k n|.b x=>.bool x|.s x=>.string x|_=>.nilIface
structure eB (P:dx) (E:Tab):Prop where
 info:∀t ti,E.ty t=ai ti->∃inf,P.info? t=ai inf/\inf.size=ti.ks.length/\inf.bytes=ti.bytes/\0<ti.ks.length/\
  (Li ti.ks=ao->∃z,inf.zero=ai z/\z.cells=(ti.ks.map iM).toArray/\(ti.agg=ao->z=.agg (ti.ks.map iM).toArray))
 desc:∀t ti,E.ty t=ai ti->∃d,P.underlying t=ai d/\
  (ti.agg=ao->∃fs,d=.struct fs/\∀f o n,E.fo t f=ai (o,n)->∃fd,fs[f]? =ai fd/\fd.offset=o/\(P.info? fd.type).map (·.size)=ai n/\n≠0/\o+n<=ti.ks.length)/\
  (ti.agg=aq->(∃k,ti.ks=[.i k]/\d=.int k)\/(ti.ks=[.b]/\d=.bool)\/(ti.ks=[.s]/\d=.string)\/(∃e,ti.ks=[.l e]/\d=.slice e)\/
   (ti.ks=[.o]/\(match d with|.struct _|.array _ _=>aq|_=>ao)=ao))
 fo:∀t f o n,E.fo t f=ai (o,n)->∃ti,E.ty t=ai ti/\ti.agg=ao
 pl:∀t ti,E.ty t=ai ti->ti.agg=ao->∀fs,P.underlying t=ai (.struct fs)->∃pl,fs.toList.mapM (λf=>(P.info? f.type).map λi=>(f.offset,i.size))=ai pl/\∀f o n,E.fo t f=ai (o,n)->pl[f]? =ai (o,n)
 eq:∀t ti,mJ t E.eqs=ao->E.ty t=ai ti->∀(w:cN) (x y:fB) (xs ys:aE AV) (r:aZ),Wv xs ys=ai r->xs.map He=ti.ks->ys.map He=ti.ks->
  (do eqGuard .eql t x y (.agg (xs.map l_).toArray) (.agg (ys.map l_).toArray);binOp .eql t (.agg (xs.map l_).toArray) (.agg (ys.map l_).toArray)).run P w=.ok (.bool r) w/\
  (do eqGuard .neq t x y (.agg (xs.map l_).toArray) (.agg (ys.map l_).toArray);binOp .neq t (.agg (xs.map l_).toArray) (.agg (ys.map l_).toArray)).run P w=.ok (.bool !r) w
 fl:∀t f,E.VD t f=ao->∀fs fd,P.underlying t=ai (.struct fs)->fs[f]? =ai fd->∀w,(Go.isAgg fd.type).run P w=.ok aq w
def EP{v:bS}(h:v.oneCell'=ao):v.cells= #[v]:=by cases v<;>simp_all [Value.cells,Value.oneCell']
def eI.one{E:Tab}{w:cN}{c:gQ}{a:AV}{v:bS}(h:eI E w c a v):v.oneCell'=true:=by
 cases a with
 |i=>cases h;rfl
 |b=>cases h;rfl
 |s=>cases h.1;rfl
 |nl=>cases h;rfl
 |sh e xs=>cases h<;>rfl
 |own n=>cases h;unfold kX;split<;>rfl
 |vw n lo hi=>
  obtain⟨_,_,h1,h2⟩:=h;by_cases k:(c.P n).nil=ao
  ·rw[h1 k];rfl
  ·rcases h2 (by simpa using k)with ⟨_,h⟩|⟨_,o,_,h⟩<;>rw[h]<;>rfl
 |bp n j=>cases h;rfl
 |rp n i j=>rw[h.2];rfl
 |sp e xs i j=>obtain⟨_,_,_,_,_,_,_,h⟩:=h;rw[h];rfl
 |mK n i j=>rw[h.1.2];unfold kX;split<;>rfl
 |ip n i j m r=>rw[h.1.2.2];rfl
 |fn f d=>obtain⟨ps,h,_⟩:=h;rw[h];rfl
 |fp cs j=>obtain⟨b,h,_⟩:=h;rw[h];rfl
section
variable {P:dx} (w:cN)
def Addr.ot(b o i:aN):(ad b o).add i=ad b (o+i):=by unfold Addr.add ad;split<;>simp_all
def Em(b o:aN):∀(vs:aE bS) (i:aN) (w:cN) (d:eN bS),og w b d->o+i+vs.length<=d.size->(∀v∈vs,v.oneCell'=ao)->
  (storeCells (ad b o) vs i).run P w=.ok () (w.setRow b (d.toList.take (o+i)++vs++d.toList.drop (o+i+vs.length)).toArray):=by
 intro vs;induction vs with
 |nil=>intro i w d j _ _;obtain⟨t,fr,hg,s⟩:=j;simp only[storeCells,d_,jU,BJ,List.take_append_drop,uH];rw[setRow_self w b d t fr hg];rfl
 |cons v rest ih=>
  intro i w d j hl h1;have hi:o+i<d.size:=by simp at hl;omega
  have h:=j.free hi;obtain⟨t,fr,hg,s⟩:=j;have f:w.cell? (ad b (o+i))=ai d[o+i]:=by simp[OQ,hg,hi]
  have m:(store ((ad b o).add i) v).run P w=.ok () (w.setRow b (d.setIfInBounds (o+i) v)):=by rw[Addr.ot,run_store P w _ v _ (h1 v (by simp)),f];simp[h,setCell_eq_setRow w b (o+i) d t fr v hg]
  have k:og (w.setRow b (d.setIfInBounds (o+i) v)) b (d.setIfInBounds (o+i) v):=⟨t,fr,setRow_heap w b d _ t fr hg,by simpa using s⟩
  have r:=ih (i+1) (w.setRow b (d.setIfInBounds (o+i) v)) (d.setIfInBounds (o+i) v) k (by simp at hl⊢;omega) (λx u=>h1 x (by simp[u]));simp only[storeCells,cx,m,bI,r,setRow_setRow];congr 3;have e:=list_seg_step d.toList (o+i) v rest (by simp at hl⊢;omega);simpa [Array.toList_setIfInBounds,kc]using e
def ew(d:eN bS)(o:aN)(vs:aE bS):eN bS:=(d.toList.take o++vs++d.toList.drop (o+vs.length)).toArray
def eT(h:o+vs.length<=cur.size):(ew cur o vs).size=cur.size:=by simp[ew];omega
def gv(h:o+vs.length<=cur.size)(k:aN):
  (ew cur o vs)[k]? =if o<=k/\k<o+vs.length then vs[k-o]? else cur[k]? :=by
 simp only[ew,ib];by_cases h1:k<o
 ·rw[bk (by omega),cg,dz (by simp;omega),ej,bm h1];simp
 ·by_cases h2:k<o+vs.length
  ·rw[bm ⟨by omega,h2⟩,cg,de (by simp;omega),dz (by simp;omega)];congr 1;simp;omega
  ·rw[bk (by omega),cg,de (by simp;omega),de (by simp;omega),eh];simp only[da];congr 1;simp;omega
def nS(d:og w b cur)(hl:o+vs.length<=cur.size)(h1:∀v∈vs,v.oneCell'=ao):
  (storeCells (ad b o) vs).run P w=.ok () (w.setRow b (ew cur o vs)):=by have:=Em (P:=P) b o vs 0 w cur d (by simpa using hl) h1;simpa [ew]using this
def og.setRow{w:cN}{b:aN}{d new:eN bS}(h:og w b d)(hs:new.size=d.size):og (w.setRow b new) b new:=by obtain⟨t,fr,hg,f⟩:=h;exact⟨t,fr,setRow_heap w b d new t fr hg,by rw[hs];exact f⟩
def og.alloc(w:cN)(cs:eN bS)(t:TypeId):og (w.alloc (.cells cs t)) w.heap.size cs:=
 ⟨t,(0,0),heap_alloc_new w _,λo _=>by simp⟩
def yC{b o:aN}{cs:aE bS}(h:∀j v,cs[j]? =ai v->w.cell? (ad b (o+j))=ai v):(loadCells (ad b o) cs.length).run P w=.ok cs.toArray w:=
 run_loadCells_list w (ad b o) cs (λj v d=>by rw[Addr.ot];exact h j v d)
def Dw{E:Tab}(hE:eB P E){t:aN}{ti:TI}(z:E.ty t=ai ti){b o:aN}{cs:aE bS}(hl:cs.length=ti.ks.length)(h:∀j v,cs[j]? =ai v->w.cell? (ad b (o+j))=ai v):
  (zc t (.pointer (ai (ad b o)))).run P w=.ok (if ti.agg=ao then .agg cs.toArray else cs.headD .nilIface) w:=by
 obtain⟨C,hi,r,_,y,_⟩:=hE.info t ti z;obtain⟨d,hd,A,u⟩:=hE.desc t ti z;cases f:ti.agg with
 |true=>obtain⟨fs,rfl,_⟩:=A f;have B:=yC (P:=P) w (b:=b) (o:=o) h;simp only[zc,va,loadVar,isAgg,cx,run_underlying hd,c8,bI,if_true,sizeOf,typeInfo,program,nu,hi,r,<-hl,B]
 |false=>
  have m:∃k,ti.ks=[k]:=by rcases u f with ⟨k,h,_⟩|⟨h,_⟩|⟨h,_⟩|⟨e,h,_⟩|⟨h,_⟩<;>exact⟨_,h⟩
  obtain⟨k,hk⟩:=m;rw[hk]at hl;obtain⟨v,rfl⟩:=fW.1 hl;have s:=h 0 v rfl;simp only[BJ]at s;have x:(match d with|.struct _|.array _ _=>ao|_=>aq)=false:=by
   rcases u f with ⟨k,_,rfl⟩|⟨_,rfl⟩|⟨_,rfl⟩|⟨e,_,rfl⟩|⟨_,h⟩
   ·rfl
   ·rfl
   ·rfl
   ·rfl
   ·cases d<;>simp_all
  have i:(isAgg t).run P w=.ok aq w:=by simp only[isAgg,cx,run_underlying hd,bI];cases d<;>simp_all
  simp only[zc,va,loadVar,cx,c8,bI,i,dq,if_false,run_load,s,List.headD]
def JD(hE:eB P E)(j:E.ty t=ai ti)(hl:v.cells.size=ti.ks.length)(f:og w b cur)(h:o+v.cells.size<=cur.size)(h1:∀u∈v.cells.toList,u.oneCell'=ao):
  (VZ t (.pointer (ai (ad b o))) v).run P w=.ok () (w.setRow b (ew cur o v.cells.toList)):=by obtain⟨k,hi,d,_⟩:=hE.info t ti j;have i:=nS (P:=P) w f (o:=o) (vs:=v.cells.toList) (by simpa using h) h1;simp only[VZ,va,storeVar,cx,c8,bI,sizeOf,typeInfo,program,nu,hi,d,hl,ne_eq,not_true_eq_false,if_false,i]
def P7(hE:eB P E)(j:E.ty t=ai ti)(h:Li ti.ks=ao):
  (Instr.alloc t ao (.tuple #[])).run P w=.ok (.pointer (ai (ad w.heap.size 0))) (w.alloc (.cells (ti.ks.map iM).toArray t)):=by obtain⟨m,hi,i,_,_,k⟩:=hE.info t ti j;obtain⟨z,d,f,_⟩:=k h;simp only[Instr.alloc,cx,zeroValue,typeInfo,program,nu,hi,bI,c8,d,newVar,newRow,newObj,f];rfl
def Uh(t:aN)(v:bS):(Instr.box t v).run P w=.ok (.pointer (ai (ad w.heap.size 0))) (w.alloc (.cells v.cells t)):=by simp only[Instr.box,cx,newVar,newRow,newObj,nu,bI,c8];rfl
def Jy(hE:eB P E)(m:E.fo t f=ai (off,n))(b o:aN):
  (VX t (.pointer (ai (ad b o))) f).run P w=.ok (.pointer (ai (ad b (o+off)))) w:=by
 obtain⟨ti,u,i⟩:=hE.fo t f off n m;obtain⟨d,hd,s,_⟩:=hE.desc t ti u;obtain⟨fs,rfl,j⟩:=s i;obtain⟨r,h1,h2,h3,h4,_⟩:=j f off n m;cases hq:P.info? r.type with
 |none=>simp[hq]at h3
 |some h=>
  have hs:h.size=n:=by simpa [hq]using h3
  have k:¬h.size=0:=by omega
  simp only[VX,cx,run_underlying hd,bI,h1,va,c8,fieldPlace,sizeOf,typeInfo,program,nu,hq,bk k,np,Addr.ot,h2]
def pD(hE:eB P E)(j:E.ty t=ai ti)(f:ti.agg=aq)(hk:ti.ks=[.l e]):P.underlying t=ai (.slice e):=by obtain⟨d,hd,_,i⟩:=hE.desc t ti j;rcases i f with ⟨k,h,_⟩|⟨h,_⟩|⟨h,_⟩|⟨m,h,rfl⟩|⟨h,_⟩<;>rw[hk]at h<;>simp_all
def Jz(hE:eB P E)(h:P.underlying t=ai (.slice e))(f:E.ty e=ai te)(b o n c:aN)(k:tL)(i:az)(h0:0<=i)(h1:i<n):
  (VY t (.slice (ai (ad b o)) n c) (.int k i)).run P w=.ok (.pointer (ai (ad b (o+i.toNat*te.ks.length)))) w:=by obtain⟨j,hi,d,_⟩:=hE.info e te f;simp only[VY,asIntOf,cx,c8,bI,run_underlying h,h0,h1,and_self,if_true,sizeOf,typeInfo,program,nu,hi,d,Addr.ot]
end
end Go.FG
namespace Go.FG
section
variable {P:dx} {E:gy} {σ:St} {a:Act} {w:cN} {c:gQ}
def mr(i:fw E σ a w c)(h:(Hp x).val σ=ai v):jb E w c v (a.eval x)/\mN σ v:=by
 cases x with
 |tmp t=>
  simp only[Hp,Rd.Cd]at h;cases j:σ (qP t)with
  |v x=>rw[j]at h;obtain rfl:=aL h;have h1:=i.ok t;have h2:=i.kn t;simp only[slot,j]at h1 h2;exact⟨h1,h2⟩
  |o x=>rw[j]at h;simp at h;subst h;exact⟨trivial,λn d=>by simp[cX]at d⟩
  |jW=>rw[j]at h;simp at h;subst h;exact⟨trivial,λn d=>by simp[cX]at d⟩
 |const k=>
  obtain rfl:=aL h;refine⟨?_,?_⟩
  ·show jb E w c (cst k) k;unfold cst;split;case h_3 x=>
    cases hd:e6 x.size 4611686018427387904 with
    |true=>exact⟨rfl,b8 hd⟩
    |false=>exact trivial
   all_goals first|trivial|rfl
  ·unfold cst;intro n d;split at d;case h_3 x=>
    cases hd:e6 x.size 4611686018427387904 with
    |true=>simp[hd,cX,bP]at d
    |false=>simp[hd,cX]at d
   all_goals simp[cX,bP]at d
 |global g=>simp[Hp]at h
 |func f=>obtain rfl:=aL h;exact⟨⟨#[],rfl,rfl,λq cs hq=>by simp at hq⟩,λn d=>by simp[cX,bP]at d⟩
def i7(d:fw E σ a w c)(h:(sD x).val σ=ai v):eI E w c v (a.eval x)/\jm σ v:=by
 obtain⟨s,h1,h2⟩:=bu h;obtain⟨h3,h4⟩:=mr d h1;split at h2
 ·obtain rfl:=aL h2;exact⟨h3,λn f=>h4 n (by simpa [cX]using f)⟩
 ·simp at h2
def qq(d:fw E σ a w c)(h:(Dc x).val σ=ai (k,n)):a.eval x=.int k n:=by
 obtain⟨s,h1,h2⟩:=bu h;obtain⟨h3,_⟩:=i7 d h1;split at h2
 ·simp at h2;obtain⟨rfl,rfl⟩:=h2;exact h3
 ·simp at h2
def dF(h:(jP nm).val σ=ai x):σ (dj nm)=.o x:=by
 simp only[jP,Rd.Cd]at h;split at h
 ·rename_i y d;simp at h;subst h;exact d
 ·simp at h
def dZ(h:(tv E t).val σ=ai ti):E.ty t=ai ti:=by
 unfold tv at h;split at h
 ·simp at h;subst h;assumption
 ·simp at h
def kW(h:(fresh nm).val σ=ai u):σ (dj nm)=.jW/\nm<900000000:=by
 simp only[fresh,Rd.Cd]at h;split at h
 ·rename_i d;obtain⟨h1,_⟩:=cZ h;exact⟨d,by have:=b8 h1;omega⟩
 ·simp at h
def hN(P:dx)(E:gy)(σ:St)(a:Act)(w:cN)(c:gQ)(o:ia)(ws:aE (aN×e9)):Prop:=
 ∀(K:Act->cN->Prop) (Q:Exit->Act->cN->Prop),
  (∀v w' c',Ok E (wr σ ws) w' c'->fw E (wr σ ws) (a.put o.dst v) w' c'->Grow σ c w (wr σ ws) c' w'->rN σ c c'->K (a.put o.dst v) w')->o.wp P a w K Q
def yO(f:(execOp a.eval o).run P w=.ok (.value v) w')(d:K (a.put o.dst v) w'):o.wp P a w K Q:=by unfold OP;rw[f];exact d
def DJ(f:(execOp a.eval o).run P w=.ok .skip w')(d:K (a.put o.dst undef) w'):o.wp P a w K Q:=by unfold OP;rw[f];exact d
def jK.refl(σ:St)(c:gQ):jK σ c c:=λ_ _=>⟨rfl,rfl⟩
def gM(f:Ok E σ w c)(j:fw E σ a w c)(hd:∀d,o.dst=ai d->d<a.tmps.size)
  (hs:jb E w c s v) (hk:mN σ s) (r:(execOp a.eval o).run P w=.ok (.value v) w):hN P E σ a w c o (dw o s):=by
 intro K Q m;obtain⟨s1,k,s3⟩:=sN σ o s;obtain⟨h1,h2⟩:=f.slot s3;refine yO r (m v w c h1 ?_ h2 (jK.refl _ _).w);refine j.change f h2 (jK.refl _ _) (λnm h=>by rw[s3];exact h) o v s1 (λd i=>⟨hd d i,?_,?_⟩)
 ·rw[k d i];exact hs
 ·rw[k d i];intro n h;rw[s3];exact hk n h
def CZ(j:Ok E σ w c)(U:fw E σ a w c)(hd:∀d,o.dst=ai d->d<a.tmps.size)
  (hn:σ (dj nm)=.jW) (h5:nm<900000000)
  (O:∀c':gQ,c'.P nm=p->c'.G nm=g->(∀b,c.K b->c'.K b)->jK σ c c'->qf E w' c' nm ob)
  (B:∀c':gQ,c'.P nm=p->c'.G nm=g->∀b,fN c' nm ob b->w.heap.size<=b)
  (H:∀xs,ob=.box xs->∀a∈xs,jm σ a)
  (V:∀c':gQ,c'.P nm=p->c'.G nm=g->jb E w' c' s v) (M:∀n∈cX s,n=nm\/σ (dj n)≠ .jW)
  (hW:∀b,b<w.heap.size->w'.heap[b]? =w.heap[b]?) (r:w.heap.size<=w'.heap.size) (R:w'.os=w.os) (X:w'.tape=w.tape) (S:w'.output=w.output)
  (hr:(execOp a.eval o).run P w=.ok (.value v) w'):hN P E σ a w c o ((dj nm,.o ob)::dw o s):=by
 intro K Q hK;let c':gQ:=⟨λn=>if n=nm then p else c.P n,λn=>if n=nm then g else c.G n,c.K⟩
 have z:c'.P nm=p:=bm rfl;have u:c'.G nm=g:=bm rfl;have t:jK σ c c':=λm hm=>by
  have:m≠nm:=by rintro rfl;rcases hm with h|h;exact h hn;omega
  exact⟨bk this,bk this⟩
 let σ1:=p_ σ (dj nm) (.o ob);obtain⟨s1,Y,s3⟩:=sN σ1 o s;have key:∀m,wr σ1 (dw o s) (dj m)=if m=nm then .o ob else σ (dj m):=λm=>by rw[s3];exact qv _ _ _ _
 have k:∀m,σ (dj m)≠ .jW->wr σ1 (dw o s) (dj m)≠ .jW:=λm hm=>by rw[key];split<;>simp_all
 have C:=j.change (σ':=wr σ1 (dw o s)) (w':=w') (c':=c') (λm=>m=nm) (λm hm=>by rw[key,bk hm]) k t
  (λb A _=>hW b A) r (λ_ h=>h) (λ_ h=>.inl h) (λb A=>jV (j.lt b A) r)
  (λm x hm f=>by subst hm;rw[key,bm rfl]at f;cases f;exact O c' z u (λ_ h=>h) t)
  (λm x b hm f hf=>by subst hm;rw[key,bm rfl]at f;cases f;have:=B c' z u b hf;exact⟨.inr this,λhk=>by have:=j.lt b hk;omega⟩)
  (λm x m' x' b hm N _ _ _ _=>by rw[hm,N])
  (λm xs hm f y hy n i=>by subst hm;rw[key,bm rfl]at f;cases f;exact k n (H xs rfl y hy n i)) R X S
 refine yO hr (hK v w' c' C.1 ?_ C.2 t.w);refine U.change j C.2 t k o v (λn i=>by rw[s1 n i];exact jv _ _ _ _) (λd f=>⟨hd d f,?_,?_⟩)
 ·show jb E w' c' (slot (wr σ1 (dw o s)) d) v;rw[Y d f];exact V c' z u
 ·show mN (wr σ1 (dw o s)) (slot (wr σ1 (dw o s)) d);rw[Y d f];intro n i;rw[key];split
  ·simp
  ·rename_i h;exact(M n i).resolve_left h
def uf(j:Ok E σ w c)(X:fw E σ a w c)(hd:∀d,o.dst=ai d->d<a.tmps.size)
  (hn:σ (dj nm)=.o ob) (S:qf E w' c nm ob') (u:∀b,fN c nm ob' b->fN c nm ob b)
  (M:∀xs,ob'=.box xs->∀a∈xs,jm σ a)
  (Y:jb E w' c s v) (N:mN σ s)
  (hW:∀b,b<w.heap.size->¬fN c nm ob b->w'.heap[b]? =w.heap[b]?) (C:w.heap.size<=w'.heap.size) (U:w'.os=w.os) (h5:w'.tape=w.tape) (V:w'.output=w.output)
  (B:(execOp a.eval o).run P w=.ok (.value v) w'\/((execOp a.eval o).run P w=.ok .skip w'/\v=undef)):hN P E σ a w c o ([(dj nm,.o ob')]++dw o s):=by
 intro K Q hK;let σ1:=p_ σ (dj nm) (.o ob');obtain⟨s1,s2,s3⟩:=sN σ1 o s;have key:∀m,wr σ1 (dw o s) (dj m)=if m=nm then .o ob' else σ (dj m):=λm=>by rw[s3];exact qv _ _ _ _
 have r:∀m,σ (dj m)≠ .jW->wr σ1 (dw o s) (dj m)≠ .jW:=λm hm=>by rw[key];split<;>simp_all
 have A:∀b,fN c nm ob b->kh (λm=>m=nm) σ c b:=λb t=>⟨nm,ob,rfl,hn,t⟩
 have z:=j.change (σ':=wr σ1 (dw o s)) (w':=w') (c':=c) (λm=>m=nm) (λm hm=>by rw[key,bk hm]) r (jK.refl _ _)
  (λb t R=>hW b t (λH=>R (A b H))) C (λ_ h=>h) (λ_ h=>.inl h) (λb t=>jV (j.lt b t) C)
  (λm x hm f=>by subst hm;rw[key,bm rfl]at f;cases f;exact S)
  (λm x b hm f H=>by subst hm;rw[key,bm rfl]at f;cases f;exact⟨.inl (A b (u b H)),j.kk _ _ b hn (u b H)⟩)
  (λm x m' x' b hm O _ _ _ _=>by rw[hm,O])
  (λm xs hm f y hy n i=>by subst hm;rw[key,bm rfl]at f;cases f;exact r n (M xs rfl y hy n i)) U h5 V
 have k:fw E (wr σ1 (dw o s)) (a.put o.dst v) w' c:=by
  refine X.change j z.2 (jK.refl _ _) r o v (λn i=>by rw[s1 n i];exact jv _ _ _ _) (λd f=>⟨hd d f,?_,?_⟩)
  ·rw[s2 d f];exact Y
  ·rw[s2 d f];intro n i;rw[key];split
   ·simp
   ·exact N n i
 rcases B with B|⟨B,rfl⟩
 ·exact yO B (hK v w' c z.1 k z.2 (jK.refl _ _).w)
 ·exact DJ B (hK undef w' c z.1 k z.2 (jK.refl _ _).w)
end
end Go.FG
namespace Go.FG
def adE:∀{x y:Ck},ckB x y=ao->x=y:=by intro x y h;cases x<;>cases y<;>simp[ckB]at h<;>first|rfl|(subst h;rfl)|(have:=aX h;subst this;rfl)
def sk:∀{a b:aE Ck},qJ a b=ao->a=b
 |[],[],_=>rfl
 |[],_::_,h=>by simp[qJ]at h
 |_::_,[],h=>by simp[qJ]at h
 |x::l,y::r,h=>by
  simp only[qJ,aM]at h;rw[adE h.1,sk h.2]
structure amD (E:gy) (w:cN) (K:aN->Prop) (b o n c e:aN) (xs:Row) (ti:TI) (U:aN->aN->bS):Prop where
 nn:n=xs.length
 ty:E.ty e=ai ti
 cap:xs.length<=c
 mx:c<=maxLen
 kb:K b
 sh:∀y∈xs,y.map CV.kd=ti.ks
 cell:∀i j y x,xs[i]? =ai y->y[j]? =ai x->w.cell? (ad b (o+i*ti.ks.length+j))=ai (U i j)
 mK:∀i j y x,xs[i]? =ai y->y[j]? =ai x->Holds E w K (U i j) x
def Holds.Jd{E:gy}{w:cN}{K:aN->Prop}{b o n c e:aN}{xs:Row}(h:Holds E w K (.slice (ai (ad b o)) n c) (.l e xs))(r:0<xs.length):∃ti U,amD E w K b o n c e xs ti U:=by
 generalize u:Value.slice (ai (ad b o)) n c=v at h;generalize f:CV.l e xs=x at h;cases h with
 |i=>cases f
 |b=>cases f
 |s=>cases f
 |nl=>cases f;simp at r
 |l e xs b o c ti U t m hm k hs d j=>cases f;cases u;exact⟨ti,U,rfl,t,m,hm,k,hs,d,j⟩
def KG{E:gy}{w:cN}{c:gQ}{u:bS}{x:CV}(h:Holds E w c.K u x):eI E w c (dec x.kd x) u:=by
 cases x with
 |i k n=>cases h;rfl
 |b=>cases h;rfl
 |s=>cases h with|s _ d=>exact⟨rfl,d⟩
 |l e xs=>exact h
def NQ{E:gy}{w:cN}{c:gQ}{u:bS}{x:CV}(h:Holds E w c.K u x):eI E w c (Ys x) u:=by
 cases x with
 |i k n=>cases h;rfl
 |b=>cases h;rfl
 |s=>cases h with|s _ d=>exact⟨rfl,d⟩
 |l e xs=>exact h
def pC{E:gy}{w:cN}{c:gQ}{u:bS}{x:CV}(hl:uQ x=aq)(h:Sc u x):eI E w c (dec x.kd x) u:=by
 cases x with
 |i=>exact h.1
 |b=>exact h.1
 |s=>exact h
 |l=>simp[uQ]at hl
def PE(k:Ck)(x:CV):bP (dec k x)=[]:=by cases k<;>rfl
def C6(x:CV):bP (Ys x)=[]:=by cases x<;>rfl
def lU(xs:Row)(i:aN):∀(ks:aE Ck) (j q:aN),(vy xs i j ks)[q]? =(ks[q]?).map λk=>dec k (av xs i (j+q)):=by
 intro ks;induction ks with
 |nil=>intro j q;simp[vy]
 |cons k ks ih=>
  intro j q;cases q with
  |zero=>simp[vy]
  |succ q=>simp only[vy,dQ,ih];congr 2;funext k;congr 2;omega
def IM(nm:aN)(xs:Row)(i:aN):∀(ks:aE Ck) (j q:aN),(Bn nm xs i j ks)[q]? =(ks[q]?).map λk=>match k with|.l _=>AV.mK nm i (j+q)|k=>dec k (av xs i (j+q)):=by
 intro ks;induction ks with
 |nil=>intro j q;simp[Bn]
 |cons k ks ih=>
  intro j q;cases q with
  |zero=>cases k<;>simp[Bn]
  |succ q=>
   have e:j+1+q=j+(q+1):=by omega
   cases k<;>simp only[Bn,dQ,ih,e]
def fF(hi:xs[i]? =ai y)(d:y[j]? =ai x):av xs i j=x:=by simp[av,eC,hi,d]
def kZ(xs:Row)(i:aN):∀(ks:aE Ck) (j:aN),(vy xs i j ks).length=ks.length:=by
 intro ks;induction ks with
 |nil=>intro j;rfl
 |cons k ks ih=>intro j;simp[vy,ih]
def AU(nm:aN)(xs:Row)(i:aN):∀(ks:aE Ck) (j:aN),(Bn nm xs i j ks).length=ks.length:=by
 intro ks;induction ks with
 |nil=>intro j;rfl
 |cons k ks ih=>intro j;cases k<;>simp[Bn,ih]
def rF{ks d:aE Ck}{j:aN}{y:aE CV}(i:y.map CV.kd=ks)(h:(ks.drop j).take d.length=d){q:aN}(hq:q<d.length):∃x,y[j+q]? =ai x/\d[q]? =ai x.kd:=by
 have h1:d[q]? =ks[j+q]? :=by rw[<-h,ej,bm hq,eh]
 rw[<-i,bJ]at h1;cases f:y[j+q]? with
 |none=>rw[f]at h1;simp at h1;omega
 |some x=>exact⟨x,rfl,by rw[h1,f];rfl⟩
section
variable {P:dx} {E:gy} {σ:St} {a:Act} {w:cN} {c:gQ}
def uY(d:jq w p xs (λi j u x=>if ao=ao then XC E w G i j u x else Holds E w c.K u x))(kJ:∀y∈xs,y.map CV.kd=ks)(hi:i<p.n)(hk:ks[j]? =ai (.l t)):
  ∃m y,xs[i]? =ai y/\y[j]? =ai (.l t m)/\∃u,XC E w G i j u (.l t m):=by
 have f:i<xs.length:=by rw[<-d.n];exact hi
 have A:xs[i]? =ai xs[i]:=by simp[f]
 have h1:=kJ xs[i] (bF f);rw[<-h1,bJ]at hk;cases k:xs[i][j]? with
 |none=>rw[k]at hk;cases hk
 |some x=>
  rw[k]at hk;cases x with
  |l e m=>
   cases hk;have h:p.nil=false:=by
    cases C:p.nil with
    |false=>rfl
    |true=>have:=(d.nil C).1;subst this;simp at f
   obtain⟨B,_,_,_,_,r⟩:=d.mem h;obtain⟨u,_,z⟩:=r i _ j _ A k;rw[bm rfl]at z;exact⟨m,_,A,k,u,z⟩
  |i=>cases hk
  |b=>cases hk
  |s=>cases hk
def im{ks:aE Ck}(h:plain ks=ao){y:aE CV}(f:y.map CV.kd=ks){j:aN}{x:CV}(d:y[j]? =ai x):uQ x=false:=by
 have h1:x.kd∈ks:=by rw[<-f];exact cU.2 ⟨x,aU d,rfl⟩
 have h2:=bE.1 h _ h1;cases x<;>simp_all [CV.kd,uQ]
structure R2 (E:gy) (σ:St) (w:cN) (c:gQ) (ti:TI) (v:bS) (xs:aE AV):Prop where
 ex:∃(b o:aN) (cs:aE bS),v=.pointer (ai (ad b o))/\cs.length=ti.ks.length/\(∀(j:aN) (u:bS),cs[j]? =ai u->w.cell? (ad b (o+j))=ai u)/\
  xs.length=ti.ks.length/\(∀(j:aN) (x:AV),xs[j]? =ai x->∃u:bS,cs[j]? =ai u/\eI E w c x u)
 kn:∀x∈xs,jm σ x
def mE(hl:xs.length=ti.ks.length)(h:∀(j:aN) (x:AV),xs[j]? =ai x->∃u:bS,w.cell? (ad b (o+j))=ai u/\eI E w c x u)(hk:∀x∈xs,jm σ x):
  R2 E σ w c ti (.pointer (ai (ad b o))) xs:=by
 refine⟨⟨b,o,(c7 xs.length).map (λj=>(w.cell? (ad b (o+j))).getD undef),rfl,by simp[hl],?_,hl,?_⟩,hk⟩
 ·intro j u d;simp only[bJ]at d;by_cases f:j<xs.length
  ·obtain⟨r,i,_⟩:=h j xs[j] (by simp[f]);simp only[f,wa,jf,i,zf,jG]at d;rw[i,d]
  ·simp[ll (l:=c7 xs.length) (by simpa using f)]at d
 ·intro j x k;obtain⟨u,d,m⟩:=h j x k;refine⟨u,?_,m⟩
  have f:j<xs.length:=(aW.1 k).1;simp[f,d]
def Ti(ha:Ok E σ w c){ti:TI}{p:AV}{v:bS}{xs:aE AV}(hp:eI E w c p v)(h:(uk E ti p).val σ=ai xs):R2 E σ w c ti v xs:=by
 have H:∀(n:aN) (k:Ck) (x:CV),n∈bP (dec k x)->σ (dj n)≠ .jW:=λn k x m=>by rw[PE]at m;simp at m
 cases p with
 |bp nm j=>
  obtain⟨o,X,h2⟩:=bu h;have O:=ha.obj nm o (dF X);obtain rfl:v=_:=hp;cases o with
  |box A=>
   obtain⟨K,h3⟩:=cZ h2;have K:=b8 K;obtain rfl:=aL h3;obtain⟨hf,hb,hs,hc⟩:=O;refine mE (by simp;omega) (λq x d=> ?_) (λx d=>ha.kn nm A (dF X) x (lL (iK d)));rw[ej]at d;split at d
   ·rw[eh]at d;obtain⟨u,hu,hv⟩:=hc (j+q) x d;exact⟨u,(hb.cell (j+q)).trans hu,hv⟩
   ·cases d
  |ov cs=>
   obtain⟨K,h3⟩:=cZ h2;have K:=b8 K;obtain rfl:=aL h3;refine mE (by simp;omega) (λq x d=> ?_) (λx d=> ?_)
   ·rw[bJ,ej]at d;split at d
    ·rw[eh]at d;cases r:cs[j+q]? with
     |none=>rw[r]at d;cases d
     |some y=>rw[r]at d;cases d;obtain⟨u,hu,hv⟩:=O.2 (j+q) y r;exact⟨u,hu,NQ hv⟩
    ·cases d
   ·obtain⟨y,_,rfl⟩:=cU.1 d;intro n m;rw[C6]at m;simp at m
  |row=>simp at h2
  |f_=>simp at h2
  |dead=>simp at h2
 |fp cs j=>
  obtain⟨K,h3⟩:=cZ h;have K:=b8 K;obtain rfl:=aL h3;obtain⟨b,rfl,hb⟩:=hp;refine mE (by simp;omega) (λq x d=> ?_) (λx d=> ?_)
  ·rw[bJ,ej]at d;split at d
   ·rw[eh]at d;cases r:cs[j+q]? with
    |none=>rw[r]at d;cases d
    |some y=>rw[r]at d;cases d;obtain⟨u,hu,hv⟩:=hb.2 (j+q) y r;exact⟨u,hu,NQ hv⟩
   ·cases d
  ·obtain⟨y,_,rfl⟩:=cU.1 d;intro n m;rw[C6]at m;simp at m
 |sp e A i j=>
  obtain⟨te,M,h2⟩:=bu h;have M:=dZ M;obtain⟨hk,h3⟩:=cZ h2;have hk:=sk hk;obtain rfl:=aL h3;obtain⟨b,o,cp,h5,hh,hi,C,rfl⟩:=hp;obtain rfl:te=h5:=aL (M.symm.trans C);refine mE (kZ _ _ _ _) (λq x d=> ?_) (λx d=> ?_)
  ·rw[lU]at d;obtain⟨x1,U,hL⟩:=hh.Jd (by omega);obtain rfl:te=x1:=aL (M.symm.trans hL.ty);have hq:q<ti.ks.length:=by
    cases hq:ti.ks[q]? with
    |none=>rw[hq]at d;cases d
    |some k=>exact(aW.1 hq).1
   have r:A[i]? =ai A[i]:=by simp[hi]
   obtain⟨z,B,f⟩:=rF (hL.sh A[i] (bF hi)) hk hq;rw[f]at d;cases d;rw[fF r B];exact⟨U i (j+q),by have:=hL.cell i (j+q) _ z r B;rwa[show o+i*te.ks.length+j+q=o+i*te.ks.length+(j+q)by omega],KG (hL.mK i (j+q) _ z r B)⟩
  ·obtain⟨q,hq⟩:=b5 d;rw[lU]at hq;cases f:ti.ks[q]? with
   |none=>rw[f]at hq;cases hq
   |some k=>rw[f]at hq;cases hq;intro n m;exact H n _ _ m
 |rp nm i j=>
  obtain⟨o,X,h2⟩:=bu h;have X:=dF X;have O:=ha.obj nm o X;obtain⟨hi,rfl⟩:=hp;cases o with
  |row e ex A=>
   obtain⟨te,M,h2⟩:=bu h2;have M:=dZ M;obtain⟨hk,h3⟩:=cZ h2;have hk:=sk hk;have h3:(ex=ao/\plain ti.ks=ao/\xs=vy A i j ti.ks)\/((ex=aq\/z7 nm=aq)/\xs=bif ex then Bn nm A i j ti.ks else vy A i j ti.ks):=by
    cases hF:(ex&&z7 nm)with
    |true=>rw[hF,au]at h3;obtain⟨Y,h3⟩:=cZ h3;rw[aM]at hF;exact .inl ⟨hF.1,Y,(aL h3).symm⟩
    |false=>
     rw[hF,ax]at h3;refine .inr ⟨?_,(aL h3).symm⟩;cases ex with
     |false=>exact .inl rfl
     |true=>exact .inr (by simpa using hF)
   obtain⟨⟨h5,C,x0,kJ⟩,R,_⟩:=O;obtain rfl:te=h5:=aL (M.symm.trans C);have V:(c.P nm).nil=false:=by
    cases m:(c.P nm).nil with
    |false=>rfl
    |true=>have:=(R.nil m).1;subst this;rw[R.n]at hi;simp at hi
   obtain⟨hf,hb,xd,_,xa,h7⟩:=R.mem V;have N:i<A.length:=by rw[<-R.n];exact hi
   have r:A[i]? =ai A[i]:=by simp[N]
   rcases h3 with ⟨rfl,Y,rfl⟩|h3
   ·refine mE (kZ _ _ _ _) (λq x d=> ?_) (λx d=> ?_)
    ·have hq:q<ti.ks.length:=by have:=(aW.1 d).1;simpa [kZ]using this
     obtain⟨z,B,f⟩:=rF (kJ A[i] (bF N)) hk hq;obtain⟨u,hu,Q⟩:=h7 i _ (j+q) z r B;rw[bm rfl]at Q;rw[lU,f]at d;cases d;refine⟨u,?_,?_⟩
     ·rw[hb.cell];rw[<-hu];congr 1;omega
     ·have x9:=bE.1 Y z.kd (aU f);show eI E w c (dec z.kd (av A i (j+q))) u;rw[fF r B];cases z with
      |l e2 zs=>cases x9
      |i k n=>exact pC rfl Q
      |b t=>exact pC rfl Q
      |s t=>exact pC rfl Q
    ·obtain⟨q,hq⟩:=b5 d;intro n m;rw[lU]at hq;cases f:ti.ks[q]? with
     |none=>rw[f]at hq;cases hq
     |some k=>rw[f]at hq;cases hq;exact H n _ _ m
   obtain⟨x3,rfl⟩:=h3;refine mE (by cases ex<;>simp[kZ,AU]) (λq x d=> ?_) (λx d=> ?_)
   ·have hq:q<ti.ks.length:=by have:=(aW.1 d).1;cases ex<;>simpa [kZ,AU]using this
    obtain⟨z,B,f⟩:=rF (kJ A[i] (bF N)) hk hq;obtain⟨u,hu,Q⟩:=h7 i _ (j+q) z r B;refine⟨u,?_,?_⟩
    ·rw[hb.cell];rw[<-hu];congr 1;omega
    ·cases ex with
     |false=>rw[bk (by simp)]at Q;have d:(vy A i j ti.ks)[q]? =ai x:=d;rw[lU,f]at d;cases d;rw[fF r B];exact KG Q
     |true=>
      rw[bm rfl]at Q;have d:(Bn nm A i j ti.ks)[q]? =ai x:=d;rw[IM,f]at d;cases z with
      |l e2 zs=>cases d;exact⟨⟨hi,Q.1⟩,x3.resolve_left (by simp)⟩
      |i k n=>cases d;rw[fF r B];exact pC rfl Q
      |b t=>cases d;rw[fF r B];exact pC rfl Q
      |s t=>cases d;rw[fF r B];exact pC rfl Q
   ·obtain⟨q,hq⟩:=b5 d;intro n m;cases ex with
    |false=>
     have hq:(vy A i j ti.ks)[q]? =ai x:=hq;rw[lU]at hq;cases f:ti.ks[q]? with
     |none=>rw[f]at hq;cases hq
     |some k=>rw[f]at hq;cases hq;exact H n _ _ m
    |true=>
     have hq:(Bn nm A i j ti.ks)[q]? =ai x:=hq;rw[IM]at hq;cases f:ti.ks[q]? with
     |none=>rw[f]at hq;cases hq
     |some k=>
      rw[f]at hq;cases k with
      |l e2=>cases hq;simp[bP]at m;subst m;rw[X];simp
      |i=>cases hq;exact H n _ _ m
      |b=>cases hq;exact H n _ _ m
      |s=>cases hq;exact H n _ _ m
      |o=>cases hq;exact H n _ _ m
  |f_ e A=>
   obtain⟨te,M,h2⟩:=bu h2;have M:=dZ M;obtain⟨hk,h3⟩:=cZ h2;have hk:=sk hk;obtain rfl:=aL h3;obtain⟨hh,m,h5,C,x0⟩:=O;obtain rfl:te=h5:=aL (M.symm.trans C);have N:i<A.length:=by rw[<-m];exact hi
   have r:A[i]? =ai A[i]:=by simp[N]
   have V:(c.P nm).nil=false:=by
    cases hq:(c.P nm).nil with
    |false=>rfl
    |true=>unfold kX at hh;rw[bm hq]at hh;cases hh;simp at N
   unfold kX at hh;rw[bk (by simp[V]),m]at hh;refine mE (kZ _ _ _ _) (λq x d=> ?_) (λx d=> ?_)
   ·rw[lU]at d;obtain⟨x1,U,hL⟩:=hh.Jd (by omega);obtain rfl:te=x1:=aL (M.symm.trans hL.ty);have hq:q<ti.ks.length:=by
     cases hq:ti.ks[q]? with
     |none=>rw[hq]at d;cases d
     |some k=>exact(aW.1 hq).1
    obtain⟨z,B,f⟩:=rF (hL.sh A[i] (bF N)) hk hq;rw[f]at d;cases d;rw[fF r B];exact⟨U i (j+q),by have:=hL.cell i (j+q) _ z r B;rw[<-this];congr 2;rw[x0];omega,KG (hL.mK i (j+q) _ z r B)⟩
   ·obtain⟨q,hq⟩:=b5 d;rw[lU]at hq;cases f:ti.ks[q]? with
    |none=>rw[f]at hq;cases hq
    |some k=>rw[f]at hq;cases hq;intro n m;exact H n _ _ m
  |box=>simp at h2
  |ov=>simp at h2
  |dead=>simp at h2
 |ip nm i j i2 j2=>
  obtain⟨o,X,h2⟩:=bu h;have X:=dF X;have O:=ha.obj nm o X;obtain⟨⟨x4,hi,rfl⟩,xc⟩:=hp;cases o with
  |row e ex A=>
   cases ex with
   |false=>simp at h2
   |true=>
    obtain⟨te,M,h2⟩:=bu h2;have M:=dZ M;split at h2
    ·rename_i e2 x5;obtain⟨t2,C,h2⟩:=bu h2;have C:=dZ C;obtain⟨hk,h3⟩:=cZ h2;have hk:=sk hk;obtain rfl:=aL h3;obtain⟨⟨tj,x6,x0,kJ⟩,R,_⟩:=O;obtain rfl:te=tj:=aL (M.symm.trans x6);obtain⟨zs,y,r,x8,uu,_,tk,x7,Y,xb,he,S⟩:=uY (c:=c) R kJ x4 x5;obtain rfl:t2=tk:=aL (C.symm.trans x7);rw[fF r x8];refine mE (kZ _ _ _ _) (λq x d=> ?_) (λx d=> ?_)
     ·rw[lU]at d;have hq:q<ti.ks.length:=by
       cases hq:ti.ks[q]? with
       |none=>rw[hq]at d;cases d
       |some k=>exact(aW.1 hq).1
      have h9:i2<zs.length:=by rw[<-S.n];exact hi
      have hj:(c.G nm i j).nil=false:=by
       cases m:(c.G nm i j).nil with
       |false=>rfl
       |true=>have:=(S.nil m).1;subst this;simp at h9
      obtain⟨hf,hb,_,_,_,h7⟩:=S.mem hj;have x2:zs[i2]? =ai zs[i2]:=by simp[h9]
      obtain⟨z,B,f⟩:=rF (he zs[i2] (bF h9)) hk hq;obtain⟨u,hu,Q⟩:=h7 i2 _ (j2+q) z x2 B;rw[f]at d;cases d;refine⟨u,?_,?_⟩
      ·rw[hb.cell,<-hu];congr 1;omega
      ·show eI E w c (dec z.kd (av zs i2 (j2+q))) u;rw[fF x2 B];exact pC (im Y (he _ (bF h9)) B) Q
     ·obtain⟨q,hq⟩:=b5 d;rw[lU]at hq;cases f:ti.ks[q]? with
      |none=>rw[f]at hq;cases hq
      |some k=>rw[f]at hq;cases hq;intro n m;exact H n _ _ m
    ·simp at h2
  |f_=>simp at h2
  |box=>simp at h2
  |ov=>simp at h2
  |dead=>simp at h2
 |i=>simp[uk]at h
 |b=>simp[uk]at h
 |s=>simp[uk]at h
 |sh=>simp[uk]at h
 |nl=>simp[uk]at h
 |own=>simp[uk]at h
 |vw=>simp[uk]at h
 |mK=>simp[uk]at h
 |fn=>simp[uk]at h
end
end Go.FG
namespace Go.FG
section
variable {P:dx} {E:gy} {σ:St} {a:Act} {w:cN} {c:gQ} {o:ia} {nm:aN} {e:tF}
def iZ(d:s.run P w=.ok v w'):(do pure (Next.value (<-s)):Sem Next).run P w=.ok (.value v) w':=by simp only[cx,d,bI,c8]
def gg(f:Ok E σ w c)(i:fw E σ a w c)(hd:∀d,o.dst=ai d->d<a.tmps.size)(h:(val o s).val σ=ai e)(hs:jb E w c s v)(hk:mN σ s)(j:(execOp a.eval o).run P w=.ok (.value v) w):hN P E σ a w c o e.ws:=by obtain rfl:=aL h;exact gM f i hd hs hk j
def FE(i:Ok E σ w c)(j:fw E σ a w c)(hd:∀d,o.dst=ai d->d<a.tmps.size)(h:(LV o b x).val σ=ai e)(f:e.cond=ao)(hs:b=ao->eI E w c x v)(hk:jm σ x)(m:b=ao->(execOp a.eval o).run P w=.ok (.value v) w):hN P E σ a w c o e.ws:=by obtain rfl:=aL h;have f:b=true:=f;exact gM i j hd (hs f) (λn k=>hk n (by simpa [cX]using k)) (m f)
def uR(h:bP x=[]):jm σ x:=λn d=>by rw[h]at d;simp at d
def NX(j:Ok E σ w c)(i:fw E σ a w c)(hd:∀d,o.dst=ai d->d<a.tmps.size)(f:o.op=.move x\/o.op=.assign x)(h:(mg E nm o).val σ=ai e):hN P E σ a w c o e.ws:=by
 have k:((Hp x).bind λv=>val o v).val σ=ai e:=by rcases f with f|f<;>simpa [mg,f]using h
 obtain⟨v,h1,h2⟩:=bu k;obtain⟨m,hk⟩:=mr i h1;refine gg j i hd h2 m hk ?_;rcases f with f|f<;>(unfold execOp;rw[f];rfl)
def Jn(m:Ok E σ w c)(k:fw E σ a w c)(hd:∀d,o.dst=ai d->d<a.tmps.size)(s:o.op=.nilCheck x)(h:(mg E nm o).val σ=ai e):hN P E σ a w c o e.ws:=by
 simp only[mg,s]at h;obtain⟨p,h1,h⟩:=bu h;obtain⟨ex,t⟩:=i7 k h1;cases p with
 |bp n j=>have f:a.eval x=.pointer (ai (ad (c.P n).blk j)):=ex;refine gg m k hd h (v:=a.eval x) ex (λn r=>t n (by simpa [cX]using r)) ?_;unfold execOp;rw[s];simp only[f];rfl
 |rp n i j=>have f:a.eval x=.pointer (ai (ad (c.P n).blk ((c.P n).off+i*(c.P n).sz+j))):=ex.2;refine gg m k hd h (v:=a.eval x) ex (λn r=>t n (by simpa [cX]using r)) ?_;unfold execOp;rw[s];simp only[f];rfl
 |_=>cases h
def Yw(j:Ok E σ w c)(f:fw E σ a w c)(hd:∀d,o.dst=ai d->d<a.tmps.size)(K:o.op=.pick x y z)(h:(mg E nm o).val σ=ai e)(H:e.cond=ao):hN P E σ a w c o e.ws:=by
 simp only[mg,K]at h;obtain⟨M,h1,h⟩:=bu h;obtain⟨r,h2,h⟩:=bu h;obtain⟨m,h3,h⟩:=bu h;obtain⟨ex,U⟩:=i7 f h1;obtain⟨B,Q⟩:=mr f h2;obtain⟨C,R⟩:=mr f h3;have run:∀b,a.eval x=.bool b->(execOp a.eval o).run P w=.ok (.value (if b then a.eval y else a.eval z)) w:=by intro b t;unfold execOp;rw[K];simp only[t,asBool,cx,c8,bI]
 cases M with
 |b b=>
  replace ex:a.eval x=.bool b:=ex;have both:∀p q,r=.v aq [.b p]->m=.v aq [.b q]->hN P E σ a w c o e.ws:=by
   rintro p q rfl rfl;refine gg j f hd h (v:=if b then a.eval y else a.eval z) ?_ (λn O=>by simp[cX,bP]at O) (run b ex);cases b
   ·exact C
   ·exact B
  have A:r=.kz []->hN P E σ a w c o e.ws:=by
   rintro rfl;replace h:(Rd.ret (⟨!b,dw o m⟩:tF)).val σ=ai e:=by cases m<;>exact h
   obtain rfl:=aL h;have t:b=false:=by simpa using H
   subst t;exact gM j f hd C R (run aq ex)
  have k:m=.kz []->r≠ .kz []->hN P E σ a w c o e.ws:=by
   rintro rfl u;replace h:(Rd.ret (⟨b,dw o r⟩:tF)).val σ=ai e:=by
    cases r with
    |un=>exact h
    |kz l=>cases l with
     |nil=>exact cO rfl u
     |cons=>exact h
    |v g xs=>cases g<;>(rcases xs with _|⟨⟨⟩,_|⟨_,_⟩⟩<;>exact h)
   obtain rfl:=aL h;have t:b=true:=H;subst t;exact gM j f hd B Q (run ao ex)
  cases r with
  |un=>cases m with
   |un=>simp at h
   |kz l=>cases l with
    |nil=>exact k rfl (by simp)
    |cons=>simp at h
   |v=>simp at h
  |kz l=>cases l with
   |nil=>exact A rfl
   |cons=>cases m with
    |un=>simp at h
    |kz l2=>cases l2 with
     |nil=>exact k rfl (by simp)
     |cons=>simp at h
    |v=>simp at h
  |v g xs=>cases m with
   |un=>simp at h
   |kz l2=>cases l2 with
    |nil=>exact k rfl (by simp)
    |cons=>simp at h
   |v N S=>cases g<;>cases N<;>rcases xs with _|⟨⟨⟩,_|⟨_,_⟩⟩<;>rcases S with _|⟨⟨⟩,_|⟨_,_⟩⟩<;>first|(simp at h;done)|exact both _ _ rfl rfl
 |i=>simp at h
 |s=>simp at h
 |sh=>simp at h
 |nl=>simp at h
 |own=>simp at h
 |vw=>simp at h
 |bp=>simp at h
 |rp=>simp at h
 |sp=>simp at h
 |mK=>simp at h
 |ip=>simp at h
 |fn=>simp at h
 |fp=>simp at h
def Yv(hE:eB P E)(s:Ok E σ w c)(y:fw E σ a w c)(hd:∀d,o.dst=ai d->d<a.tmps.size)(H:o.op=.load t p)(h:(mg E nm o).val σ=ai e):hN P E σ a w c o e.ws:=by
 simp only[mg,H]at h;obtain⟨ti,h1,h⟩:=bu h;obtain⟨S,h2,h⟩:=bu h;obtain⟨xs,h3,h⟩:=bu h;have K:=dZ h1;obtain⟨M,_⟩:=i7 y h2;obtain⟨⟨b,of,cs,Q,hl,i,f,m⟩,C⟩:=Ti s M h3;have O:=Dw (P:=P) w hE K hl i;refine gg s y hd h (v:=if ti.agg=ao then .agg cs.toArray else cs.headD .nilIface) ?_ (λn r=>by obtain⟨x,z,r⟩:=bL.1 r;exact C x z n r) ?_
 ·show qG E w c ti.agg xs _;cases B:ti.agg with
  |true=>rw[bm rfl];exact⟨cs.toArray,rfl,by simp[hl,f],λj x N=>by obtain⟨u,A,z⟩:=m j x N;exact⟨u,by simpa using A,z⟩⟩
  |false=>
   obtain⟨d,_,_,r⟩:=hE.desc t ti K;have h1:ti.ks.length=1:=by rcases r B with ⟨k,h,_⟩|⟨h,_⟩|⟨h,_⟩|⟨R,h,_⟩|⟨h,_⟩<;>simp[h]
   obtain⟨x,rfl⟩:=fW.1 (f.trans h1);obtain⟨v,rfl⟩:=fW.1 (hl.trans h1);obtain⟨u,A,z⟩:=m 0 x rfl;simp at A;subst A;simpa [qG]using z
 ·unfold execOp;rw[H];exact iZ (by rw[Q];exact O)
def Hl(hE:eB P E)(u:Ok E σ w c)(m:fw E σ a w c)(hd:∀d,o.dst=ai d->d<a.tmps.size)(K:o.op=.fieldAddr t p f)(h:(mg E nm o).val σ=ai e):hN P E σ a w c o e.ws:=by
 simp only[mg,K]at h;obtain⟨Q,h1,h⟩:=bu h;obtain⟨q,h2,h⟩:=bu h;obtain⟨x,kp⟩:=i7 m h1;unfold Sw at h2;cases B:E.fo t f with
 |none=>rw[B]at h2;simp at h2
 |some r=>
  obtain⟨off,n⟩:=r;rw[B]at h2;have run:∀b o',a.eval p=.pointer (ai (ad b o'))->(execOp a.eval o).run P w=.ok (.value (.pointer (ai (ad b (o'+off))))) w:=by intro b o' hp;unfold execOp;rw[K];exact iZ (by rw[hp];exact Jy (P:=P) w hE B b o')
  cases Q with
  |bp k j=>obtain rfl:=aL h2;exact gg u m hd h (s:=.v aq [.bp k (j+off)]) (v:=.pointer (ai (ad (c.P k).blk (j+off)))) rfl (λn y=>kp n (by simpa [cX,bP]using y)) (run _ _ x)
  |rp k i j=>obtain rfl:=aL h2;refine gg u m hd h (s:=.v aq [.rp k i (j+off)]) ?_ (λn y=>kp n (by simpa [cX,bP]using y)) (run _ _ x.2);exact⟨x.1,by rw[show(c.P k).off+i*(c.P k).sz+j+off=(c.P k).off+i*(c.P k).sz+(j+off)by omega]⟩
  |sp M xs i j=>obtain rfl:=aL h2;obtain⟨b,o',cp,ti,A,z,N,O⟩:=x;refine gg u m hd h (s:=.v aq [.sp M xs i (j+off)]) ?_ (λn y=>by simp[cX,bP]at y) (run _ _ O);exact⟨b,o',cp,ti,A,z,N,by rw[show o'+i*ti.ks.length+j+off=o'+i*ti.ks.length+(j+off)by omega]⟩
  |ip k i j C H=>obtain rfl:=aL h2;refine gg u m hd h (s:=.v aq [.ip k i j C (H+off)]) ?_ (λn y=>kp n (by simpa [cX,bP]using y)) (run _ _ x.1.2.2);exact⟨⟨x.1.1,x.1.2.1,by rw[show(c.G k i j).off+C*(c.G k i j).sz+H+off=(c.G k i j).off+C*(c.G k i j).sz+(H+off)by omega]⟩,x.2⟩
  |fp cs j=>obtain rfl:=aL h2;obtain⟨b,A,z⟩:=x;exact gg u m hd h (s:=.v aq [.fp cs (j+off)]) ⟨b,rfl,z⟩ (λn y=>by simp[cX,bP]at y) (run _ _ A)
  |i=>simp at h2
  |b=>simp at h2
  |s=>simp at h2
  |sh=>simp at h2
  |nl=>simp at h2
  |own=>simp at h2
  |vw=>simp at h2
  |mK=>simp at h2
  |fn=>simp at h2
def Lq(j:Ok E σ w c)(f:fw E σ a w c)(hd:∀d,o.dst=ai d->d<a.tmps.size)(k:o.op=.extract x i)(h:(mg E nm o).val σ=ai e):hN P E σ a w c o e.ws:=by
 simp only[mg,k]at h;obtain⟨v,h1,h⟩:=bu h;obtain⟨s,A⟩:=mr f h1;split at h
 ·rename_i l;split at h
  ·rename_i agg xs hl;obtain⟨vs,m,B,r⟩:=s;obtain⟨u,y,z⟩:=r i agg xs hl;refine gg j f hd h (v:=u) z (λn t=>A n (bL.2 ⟨(agg,xs),aU hl,t⟩)) ?_;unfold execOp;rw[k];refine iZ ?_;rw[m];simp only[Instr.extract,y];rfl
  ·simp at h
 ·simp at h
def Yx(j:Ok E σ w c)(f:fw E σ a w c)(hd:∀d,o.dst=ai d->d<a.tmps.size)(r:o.op=.unOp op t x)(h:(mg E nm o).val σ=ai e):hN P E σ a w c o e.ws:=by
 simp only[mg,r]at h;obtain⟨v,h1,h⟩:=bu h;obtain⟨s,u⟩:=i7 f h1;cases op with
 |not=>
  cases v with
  |b b=>refine gg j f hd h (v:=.bool !b) rfl (λn m=>by simp[cX,bP]at m) ?_;unfold execOp;rw[r];refine iZ ?_;rw[show a.eval x=.bool b from s];rfl
  |_=>simp at h
 |neg=>
  cases v with
  |i k n=>refine gg j f hd h (v:=.int k (k.wrap (0-n))) rfl (λn m=>by simp[cX,bP]at m) ?_;unfold execOp;rw[r];refine iZ ?_;rw[show a.eval x=.int k n from s];rfl
  |_=>simp at h
 |_=>cases v<;>simp at h
def sr(h:(qo E t).val σ=ai k):∃ti,E.ty t=ai ti/\ti.agg=aq/\ti.ks=[k]:=by
 obtain⟨ti,h1,h2⟩:=bu h;split at h2
 ·rename_i k' h3 h4;simp at h2;subst h2;exact⟨ti,dZ h1,h3,h4⟩
 ·simp at h2
def kY{E:gy}{σ:St}(hE:eB P E){t e:aN}(h:(qo E t).val σ=ai (.l e)):P.underlying t=ai (.slice e):=by obtain⟨ti,h1,h2,h3⟩:=sr h;exact pD hE h1 h2 h3
def lz(hE:eB P E)(h:(qo E t).val σ=ai .s):P.underlying t=ai .string:=by obtain⟨ti,h1,h2,h3⟩:=sr h;obtain⟨d,hd,_,f⟩:=hE.desc t ti h1;rcases f h2 with ⟨k,h,_⟩|⟨h,_⟩|⟨h,rfl⟩|⟨i,h,_⟩|⟨h,_⟩<;>rw[h3]at h<;>simp_all
def TT(hE:eB P E)(m:Ok E σ w c)(f:fw E σ a w c)(hd:∀d,o.dst=ai d->d<a.tmps.size)(u:o.op=.index t x y)(h:(mg E nm o).val σ=ai e)(A:e.cond=ao):hN P E σ a w c o e.ws:=by
 simp only[mg,u]at h;obtain⟨kk,h0,h⟩:=bu h;obtain⟨v,h1,h⟩:=bu h;obtain⟨⟨k,n⟩,h2,h⟩:=bu h;obtain⟨j,C⟩:=i7 f h1;have z:=qq f h2;cases kk with
 |s=>cases v with
  |s s=>
   have B:=lz hE h0;refine FE m f hd h A (v:=.int .u8 ((s.data.getD n.toNat 0).toNat:az)) (λ_=>rfl) (uR rfl) (λr=> ?_);simp only[aM,ba]at r;obtain⟨h0,h3⟩:=r;unfold execOp;rw[u];refine iZ ?_;replace j:a.eval x=.string s:=j.1;have i:n.toNat<s.size:=by omega
   have hg:s[n.toNat]? =ai s[n.toNat]:=by simp[i]
   have hs:s[n.toNat]=s.data.getD n.toNat 0:=by rw[Array.getD,dif_pos (show n.toNat<s.data.size from i)];rfl
   simp only[j,z,Instr.index,asIntOf,cx,c8,bI,run_underlying B,h0,if_true,hg,hs]
  |_=>simp at h
 |_=>simp at h
end
end Go.FG
namespace Go.FG
section
variable {P:dx} {E:gy} {σ:St} {a:Act} {w:cN} {c:gQ} {o:ia} {nm:aN} {e:tF}
def qX(h:(bif b then Rd.ret x else Rd.fail).val σ=ai r):b=ao/\r=x:=by obtain⟨h1,h2⟩:=cZ h;exact⟨h1,(aL h2).symm⟩
def eS(h:p.nil=aq):kX p=.slice (ai (ad p.blk p.off)) p.n p.cap:=by unfold kX;rw[bk (by simp[h])]
def nO(h:p.nil=ao):kX p=.slice ay 0 0:=by unfold kX;rw[bm h]
def lA{nm e:aN}{ex:aZ}{xs:Row}(i:Ok E σ w c)(h:σ (dj nm)=.o (.row e ex xs)):
  (c.P nm).n=xs.length/\((c.P nm).nil=ao->xs=[])/\∃ti,E.ty e=ai ti/\(c.P nm).sz=ti.ks.length/\((c.P nm).nil=aq->(c.P nm).n<=(c.P nm).cap/\(c.P nm).cap<=maxLen):=by have d:=i.obj nm _ h;obtain⟨ti,h1,h2,_⟩:=d.sh;exact⟨d.at_.n,λf=>(d.at_.nil f).1,ti,h1,h2,λf=>by obtain⟨_,_,h3,h4,_⟩:=d.at_.mem f;exact⟨h3,h4⟩⟩
def mZ{nm e:aN}{xs:Row}(d:Ok E σ w c)(h:σ (dj nm)=.o (.f_ e xs)):
  (c.P nm).n=xs.length/\((c.P nm).nil=ao->xs=[])/\∃ti,E.ty e=ai ti/\(c.P nm).sz=ti.ks.length:=by
 obtain⟨h1,h2,h3⟩:=d.obj nm _ h;refine⟨h2,λf=> ?_,h3⟩
 rw[nO f]at h1;cases h1;rfl
def Hm(hE:eB P E)(r:Ok E σ w c)(C:fw E σ a w c)(hd:∀d,o.dst=ai d->d<a.tmps.size)(ho:o.op=.indexAddr t x y)(h:(mg E nm o).val σ=ai e)(z:e.cond=ao):hN P E σ a w c o e.ws:=by
 simp only[mg,ho]at h;obtain⟨kk,h0,h⟩:=bu h;cases kk with
 |l el=>
  obtain⟨v,h1,h⟩:=bu h;obtain⟨⟨k,n⟩,h2,h⟩:=bu h;obtain⟨⟨b,q⟩,h3,h⟩:=bu h;obtain⟨V,kv⟩:=i7 C h1;have ei:=qq C h2;have hu:=kY hE h0;have run:∀te b o' m cp,E.ty el=ai te->a.eval x=.slice (ai (ad b o')) m cp->0<=n->n<(m:az)->(execOp a.eval o).run P w=.ok (.value (.pointer (ai (ad b (o'+n.toNat*te.ks.length))))) w:=by intro te b o' m cp x0 R h0 h1;unfold execOp;rw[ho];refine iZ ?_;rw[R,ei];exact Jz (P:=P) w hE hu x0 b o' m cp k n h0 h1
  cases v with
  |sh O xs=>
   obtain⟨u,h3⟩:=qX h3;obtain⟨rfl,rfl⟩:=bX h3;have:=aX u;subst this;obtain rfl:=aL h;have z:(ah (0<=n)&&ah (n<(xs.length:az)))=true:=z;simp only[aM,ba]at z;obtain⟨c0,H⟩:=z;have V:Holds E w c.K (a.eval x) (.l el xs):=V;generalize hv:a.eval x=v at V;have hr:0<xs.length:=by omega
   cases V with
   |nl=>simp at hr
   |l _ _ bb oo cc ti U N S hj hK hs Y hf=>exact gM r C hd (s:=.v aq [.sp el xs n.toNat 0]) (v:=.pointer (ai (ad bb (oo+n.toNat*ti.ks.length)))) ⟨bb,oo,cc,ti,.l el xs bb oo cc ti U N S hj hK hs Y hf,by omega,N,rfl⟩ (λn hn=>by simp[cX,bP]at hn) (run ti bb oo _ cc N hv c0 H)
  |own f=>
   obtain⟨ob,hg,h3⟩:=bu h3;have hg:=dF hg;have A:∀(xs:Row),(c.P f).n=xs.length->((c.P f).nil=ao->xs=[])->(∃ti,E.ty el=ai ti/\(c.P f).sz=ti.ks.length)->(b,q)=(ah (0<=n)&&ah (n<(xs.length:az)),AV.rp f n.toNat 0)->hN P E σ a w c o e.ws:=by
    intro xs hn h9 h5 X;obtain⟨rfl,rfl⟩:=bX X;obtain rfl:=aL h;have z:(ah (0<=n)&&ah (n<(xs.length:az)))=true:=z;simp only[aM,ba]at z;obtain⟨c0,H⟩:=z;obtain⟨ti,N,Q⟩:=h5;have B:(c.P f).nil=false:=by
     cases hq:(c.P f).nil with
     |false=>rfl
     |true=>rw[h9 hq]at H;simp at H;omega
    have R:a.eval x=.slice (ai (ad (c.P f).blk (c.P f).off)) (c.P f).n (c.P f).cap:=by rw[<-eS B];exact V
    refine gM r C hd (s:=.v aq [.rp f n.toNat 0]) (v:=.pointer (ai (ad (c.P f).blk ((c.P f).off+n.toNat*ti.ks.length)))) ⟨by omega,by rw[Q];rfl⟩ (λm hm=>by simp[cX,bP]at hm;subst hm;rw[hg];simp) (run ti _ _ _ _ N R c0 (by rw[hn];exact H))
   cases ob with
   |row O ex xs=>obtain⟨u,h4⟩:=qX h3;have:=aX u;subst this;obtain⟨i1,i2,ti,i3,i4,_⟩:=lA r hg;exact A xs i1 i2 ⟨ti,i3,i4⟩ h4
   |f_ O xs=>obtain⟨u,h4⟩:=qX h3;have:=aX u;subst this;obtain⟨i1,i2,i3⟩:=mZ r hg;exact A xs i1 i2 i3 h4
   |_=>simp at h3
  |vw f lo hi=>
   obtain⟨ob,hg,h3⟩:=bu h3;have hg:=dF hg;have A:∀(xs:Row),(c.P f).n=xs.length->(∃ti,E.ty el=ai ti/\(c.P f).sz=ti.ks.length)->(b,q)=(ah (0<=n)&&ah (n<((hi-lo:aN):az)),AV.rp f (lo+n.toNat) 0)->hN P E σ a w c o e.ws:=by
    intro xs hn h5 X;obtain⟨rfl,rfl⟩:=bX X;obtain rfl:=aL h;have z:(ah (0<=n)&&ah (n<((hi-lo:aN):az)))=true:=z;simp only[aM,ba]at z;obtain⟨c0,H⟩:=z;obtain⟨ti,N,Q⟩:=h5;obtain⟨v1,v2,v3,v4⟩:=V;have B:(c.P f).nil=false:=by
     cases hq:(c.P f).nil with
     |false=>rfl
     |true=>
      obtain⟨f1,_⟩:(c.P f).n=0/\True:=by
       have x5:=r.obj f _ hg;rw[hn];cases ob with
       |row O ex ys=>obtain⟨j1,j2,_⟩:=lA r hg;rw[<-hn,j1,j2 hq];simp
       |f_ O ys=>obtain⟨j1,j2,_⟩:=mZ r hg;rw[<-hn,j1,j2 hq];simp
       |_=>simp at h3
      omega
    rcases v4 B with ⟨u1,R⟩|⟨u1,oo,u2,R⟩
    ·refine gM r C hd (s:=.v aq [.rp f (lo+n.toNat) 0]) (v:=.pointer (ai (ad (c.P f).blk ((c.P f).off+lo*(c.P f).sz+n.toNat*ti.ks.length)))) ⟨by omega,?_⟩ (λm hm=>by simp[cX,bP]at hm;subst hm;rw[hg];simp) (run ti _ _ _ _ N R c0 H);rw[<-Q,show(c.P f).off+(lo+n.toNat)*(c.P f).sz+0=(c.P f).off+lo*(c.P f).sz+n.toNat*(c.P f).sz by rw[dv];omega]
    ·exfalso;have S:(c.P f).n<=(c.P f).cap:=by
      cases ob with
      |row O ex ys=>obtain⟨_,_,_,_,_,j⟩:=lA r hg;exact(j B).1
      |f_ O ys=>
       obtain⟨j1,j2,_⟩:=r.obj f _ hg;rw[eS B]at j1;by_cases hz:0<ys.length
       ·obtain⟨t3,U,L⟩:=j1.Jd hz;rw[j2];exact L.cap
       ·omega
      |_=>simp at h3
     omega
   cases ob with
   |row O ex xs=>obtain⟨u,h4⟩:=qX h3;have:=aX u;subst this;obtain⟨i1,i2,ti,i3,i4,_⟩:=lA r hg;exact A xs i1 ⟨ti,i3,i4⟩ h4
   |f_ O xs=>obtain⟨u,h4⟩:=qX h3;have:=aX u;subst this;obtain⟨i1,i2,i3⟩:=mZ r hg;exact A xs i1 i3 h4
   |_=>simp at h3
  |mK f i j=>
   obtain⟨ob,hg,h3⟩:=bu h3;have hg:=dF hg;cases ob with
   |row O ex xs=>
    cases ex with
    |false=>simp at h3
    |true=>
     obtain⟨te,N,h3⟩:=bu h3;have N:=dZ N;split at h3
     ·rename_i e2 hh;obtain⟨u,h3⟩:=qX h3;obtain⟨rfl,rfl⟩:=bX h3;have:=aX u;subst this;obtain rfl:=aL h;obtain⟨⟨h7,R⟩,hb⟩:=V;obtain⟨⟨tj,x1,Q,kJ⟩,he,_⟩:=r.obj f _ hg;obtain rfl:te=tj:=aL (N.symm.trans x1);obtain⟨zs,y',hy,x3,uu,_,tk,x2,x6,ha,x4,M⟩:=uY (c:=c) he kJ h7 hh;have z:(ah (0<=n)&&ah (n<((jd (av xs i j)).length:az)))=true:=z;rw[fF hy x3]at z;simp only[aM,ba]at z;obtain⟨c0,H⟩:=z;have H:n<(zs.length:az):=H;have B:(c.G f i j).nil=false:=by
       cases hq:(c.G f i j).nil with
       |false=>rfl
       |true=>have:=(M.nil hq).1;subst this;simp at H;omega
      rw[eS B]at R;refine gM r C hd (s:=.v aq [.ip f i j n.toNat 0]) (v:=.pointer (ai (ad (c.G f i j).blk ((c.G f i j).off+n.toNat*tk.ks.length)))) ⟨⟨h7,by rw[M.n];omega,by rw[ha];rfl⟩,hb⟩ (λm hm=>by simp[cX,bP]at hm;subst hm;rw[hg];simp) (run tk _ _ _ _ x2 R c0 (by rw[M.n];exact H))
     ·simp at h3
   |_=>simp at h3
  |_=>simp[SM]at h3
 |_=>simp at h
end
end Go.FG
namespace Go.FG
section
variable {P:dx} {E:gy} {σ:St} {a:Act} {w:cN} {c:gQ} {o:ia} {nm:aN} {e:tF}
def B'(f:fw E σ a w c)(h:(oy x d).val σ=ai n):(x=ay/\n=d)\/∃y k,x=ai y/\a.eval y=.int k n:=by
 cases x with
 |none=>exact .inl ⟨rfl,(aL h).symm⟩
 |some y=>obtain⟨⟨k,m⟩,h1,h2⟩:=bu h;obtain rfl:=aL h2;exact .inr ⟨y,k,rfl,qq f h1⟩
def Fw{x:bS}{k:tL}{n:az}{y:aN}{d:BoundsCode}(f:x=.int k n)(h0:0<=n)(h1:n<=y):(rK x y d).run P w=.ok n.toNat w:=by subst f;simp only[rK,asIntOf,cx,c8,bI,h0,h1,and_self,if_true]
def Dt(i:fw E σ a w c){z:aZ}{len cap:aN}{lo hi:aG fB}{l h:az}(hl:(oy lo 0).val σ=ai l)(A:(oy hi len).val σ=ai h)(h0:0<=l)(h1:l<=h)(h2:h<=cap):
  (nb z len cap (lo.map a.eval) (hi.map a.eval) ay).run P w=.ok (l.toNat,h.toNat,cap) w:=by
 have t:∀v,lo=ai v->∀d,(rK (a.eval v) h.toNat d).run P w=.ok l.toNat w:=by
  intro v j d;rcases B' i hl with ⟨f,_⟩|⟨y,k,f,m⟩
  ·rw[f]at j;cases j
  ·rw[f]at j;cases j;exact Fw m h0 (by omega)
 have r:∀v,hi=ai v->∀d,(rK (a.eval v) cap d).run P w=.ok h.toNat w:=by
  intro v j d;rcases B' i A with ⟨f,_⟩|⟨y,k,f,m⟩
  ·rw[f]at j;cases j
  ·rw[f]at j;cases j;exact Fw m (by omega) h2
 have B:lo=ay->l=0:=λf=>by rcases B' i hl with ⟨_,x⟩|⟨y,k,m,_⟩;exact x;rw[f]at m;cases m
 have s:hi=ay->h=len:=λf=>by rcases B' i A with ⟨_,x⟩|⟨y,k,m,_⟩;exact x;rw[f]at m;cases m
 cases lo with
 |none=>
  obtain rfl:=B rfl;cases hi with
  |none=>obtain rfl:=s rfl;simp[nb]
  |some v=>simp[nb,r v rfl]
 |some u=>
  cases hi with
  |none=>obtain rfl:=s rfl;have:=t u rfl;simp only[dX]at this;simp[nb,this]
  |some v=>simp[nb,r v rfl,t u rfl]
def LC{t:aN}(i:P.underlying t=ai .string)(d:fw E σ a w c){lo hi:aG fB}{l h:az}{s:ar}(hl:(oy lo 0).val σ=ai l)(f:(oy hi s.size).val σ=ai h)(h0:0<=l)(h1:l<=h)(h2:h<=(s.size:az)):
  (qR t (.string s) (lo.map a.eval) (hi.map a.eval) ay).run P w=.ok (.string (s.extract l.toNat h.toNat)) w:=by simp only[qR,Instr.slice,cx,run_underlying i,bI,Option.isSome_none,dq,if_false,Dt (P:=P) d hl f h0 h1 h2,c8]
def k6{t el:aN}{te:TI}(hE:eB P E)(m:P.underlying t=ai (.slice el))(j:E.ty el=ai te)(f:fw E σ a w c){lo hi:aG fB}{l h:az}{A:aG Addr}{n cp:aN}(hl:(oy lo 0).val σ=ai l)(k:(oy hi n).val σ=ai h)(h0:0<=l)(h1:l<=h)(h2:h<=(cp:az)):
  (qR t (.slice A n cp) (lo.map a.eval) (hi.map a.eval) ay).run P w=.ok (.slice (if cp=l.toNat then A else A.map (·.add (l.toNat*te.ks.length))) (h.toNat-l.toNat) (cp-l.toNat)) w:=by obtain⟨r,d,i,_⟩:=hE.info el te j;simp only[qR,Instr.slice,cx,run_underlying m,bI,Dt (P:=P) f hl k h0 h1 h2,sizeOf,typeInfo,program,nu,d,i,c8]
def uF:(ez xs lo hi)[i]? =if i<hi-lo then xs[lo+i]? else none:=by unfold ez;rw[ej];split<;>simp[eh]
def mD(h:hi<=xs.length):(ez xs lo hi).length=hi-lo:=by unfold ez;simp;omega
def C5(h:y∈ez xs lo hi):y∈xs:=lL (iK h)
def ac0{K:aN->Prop}{v:bS}{el:aN}{xs:Row}{te:TI}(f:E.ty el=ai te)(h:Holds E w K v (.l el xs)){lo hi:aN}(h1:lo<=hi)(h2:hi<=xs.length):
  ∃A n cp,v=.slice A n cp/\n=xs.length/\n<=cp\/∃A cp,v=.slice A 0 cp/\xs=[]:=by
 cases h with
 |nl=>exact⟨ay,0,0,.inr ⟨_,_,rfl,rfl⟩⟩
 |l _ _ b oo cp ti U i d=>exact⟨_,_,_,.inl ⟨rfl,rfl,d⟩⟩
def Fa{K:aN->Prop}{A:aG Addr}{n cp el:aN}{xs:Row}{te:TI}(C:E.ty el=ai te)(h:Holds E w K (.slice A n cp) (.l el xs)){lo hi:aN}(h1:lo<=hi)(h2:hi<=xs.length):
  n=xs.length/\Holds E w K (.slice (if cp=lo then A else A.map (·.add (lo*te.ks.length))) (hi-lo) (cp-lo)) (.l el (ez xs lo hi)):=by
 generalize u:Value.slice A n cp=v at h;generalize k:CV.l el xs=x at h;cases h with
 |i=>cases k
 |b=>cases k
 |s=>cases k
 |nl=>
  cases k;cases u;have:hi=0:=by simpa using h2
  subst this;have:lo=0:=by omega
  subst this;exact⟨rfl,.nl _ _ _⟩
 |l _ _ b oo cp ti U t M hm B hs f m=>
  cases k;cases u;refine⟨rfl,?_⟩
  obtain rfl:te=ti:=aL (C.symm.trans t);by_cases z:hi-lo=0
  ·rw[z];have:ez xs lo hi=[]:=by unfold ez;rw[z];simp
   rw[this];exact .nl _ _ _
  ·rw[bk (by omega)];simp only[jf,Addr.ot];have hl:=mD (xs:=xs) (lo:=lo) h2;rw[<-hl];refine .l el (ez xs lo hi) b (oo+lo*te.ks.length) (cp-lo) te (λi j=>U (lo+i) j) t (by rw[hl];omega) (by omega) B (λy H=>hs y (C5 H)) (λi j y x d r=> ?_) (λi j y x d r=> ?_)
   ·rw[uF]at d;split at d
    ·have:=f (lo+i) j y x d r;rw[<-this];congr 2;rw[dv];omega
    ·cases d
   ·rw[uF]at d;split at d
    ·exact m (lo+i) j y x d r
    ·cases d
def TU(hE:eB P E)(k:Ok E σ w c)(j:fw E σ a w c)(hd:∀d,o.dst=ai d->d<a.tmps.size){x:fB}{t:aN}{lo hi mx:aG fB}(ho:o.op=.slice t x lo hi mx)(h:(mg E nm o).val σ=ai e)(C:e.cond=ao):hN P E σ a w c o e.ws:=by
 simp only[mg,ho]at h;cases mx with
 |some m=>simp at h
 |none=>
 obtain⟨kk,hk,h⟩:=bu h;obtain⟨v,h1,h⟩:=bu h;obtain⟨⟨b,q⟩,h3,h⟩:=bu h;obtain⟨O,kv⟩:=i7 j h1;have y:∀{u r:bS},a.eval x=u->(qR t u (lo.map a.eval) (hi.map a.eval) ay).run P w=.ok r w->(execOp a.eval o).run P w=.ok (.value r) w:=by intro u r X M;unfold execOp;rw[ho];exact iZ (by rw[X];exact M)
 cases kk with
 |s=>cases v with
  |s s=>have X:=lz hE hk;obtain⟨l,hl,h3⟩:=bu h3;obtain⟨B,z,h3⟩:=bu h3;obtain⟨rfl,rfl⟩:=bX (aL h3);obtain rfl:=aL h;have C:gA l B s.size=true:=C;simp only[gA,aM,ba]at C;obtain⟨⟨c0,c1⟩,c2⟩:=C;exact gM k j hd (s:=.v aq [.s _]) (v:=.string _) ⟨rfl,by have h5:=O.2;unfold DS at h5⊢;rw[vQ];omega⟩ (λn V=>by simp[cX,bP]at V) (y O.1 (LC (P:=P) X j hl z c0 c1 c2))
  |_=>simp[LJ]at h3
 |l el=>
  have X:=kY hE hk;obtain⟨te,h9,h3⟩:=bu h3;have h9:=dZ h9;cases v with
  |sh e' xs=>
   obtain⟨H,h4⟩:=cZ h3;have:=aX H;subst this;obtain⟨l,hl,h4⟩:=bu h4;obtain⟨B,z,h4⟩:=bu h4;obtain⟨rfl,rfl⟩:=bX (aL h4);obtain rfl:=aL h;have C:gA l B xs.length=true:=C;simp only[gA,aM,ba]at C;obtain⟨⟨c0,c1⟩,c2⟩:=C;have O:Holds E w c.K (a.eval x) (.l el xs):=O;generalize hv:a.eval x=v at O;cases O with
   |nl _ A cp=>
    have h0:B=0:=by simp at c2;omega
    have l0:l=0:=by omega
    subst h0;subst l0;have M:=k6 (P:=P) (te:=te) hE X h9 j (A:=A) (n:=0) (cp:=cp) hl z (by omega) (by omega) (by omega);exact gM k j hd (s:=.v aq [.sh el (ez [] (0:az).toNat (0:az).toNat)]) (.nl _ _ _) (λn V=>by simp[cX,bP]at V) (y hv M)
   |l _ _ bb oo cp ti U ht hy x3 hK hs ha x2=>have M:=k6 (P:=P) (te:=ti) hE X ht j (A:=ai (ad bb oo)) (cp:=cp) hl z c0 c1 (by omega);have x0:=(Fa (lo:=l.toNat) (hi:=B.toNat) ht (.l el xs bb oo cp ti U ht hy x3 hK hs ha x2) (by omega) (by omega)).2;exact gM k j hd (s:=.v aq [.sh el (ez xs l.toNat B.toNat)]) x0 (λn V=>by simp[cX,bP]at V) (y hv M)
  |own f=>
   obtain⟨ob,hg,h3⟩:=bu h3;have hg:=dF hg
   have N:∀(xs:Row),(c.P f).n=xs.length->((c.P f).nil=ao->xs=[])->(∃ti,E.ty el=ai ti/\(c.P f).sz=ti.ks.length)->((c.P f).nil=aq->(c.P f).n<=(c.P f).cap)->
     ((oy lo 0).bind λl=>(oy hi xs.length).bind λh=>Rd.ret (gA l h xs.length,AV.vw f l.toNat h.toNat)).val σ=ai (b,q)->hN P E σ a w c o e.ws:=by
    intro xs V h7 hj Y h4
    obtain⟨l,hl,h4⟩:=bu h4
    obtain⟨B,z,h4⟩:=bu h4
    obtain⟨rfl,rfl⟩:=bX (aL h4)
    obtain rfl:=aL h
    have C:gA l B xs.length=true:=C
    simp only[gA,aM,ba]at C
    obtain⟨⟨c0,c1⟩,c2⟩:=C
    obtain⟨ti,ht,he⟩:=hj
    have O:a.eval x=kX (c.P f):=O
    cases hq:(c.P f).nil with
    |true=>
     rw[nO hq]at O;have hx:=h7 hq;subst hx;have h0:B=0:=by simp at c2;omega
     have l0:l=0:=by omega
     subst h0;subst l0;have M:=k6 (P:=P) (te:=ti) hE X ht j (A:=ay) (n:=0) (cp:=0) hl z (by omega) (by omega) (by simp);refine gM k j hd (s:=.v aq [.vw f 0 0]) (v:=.slice ay 0 0) ⟨bW _,bB _,λ_=>rfl,λQ=>by rw[hq]at Q;cases Q⟩ (λm hm=>by simp[cX,bP]at hm;subst hm;rw[hg];simp) (y O (by simpa using M))
    |false=>
     rw[eS hq]at O;have Y:=Y hq;have M:=k6 (P:=P) (te:=ti) hE X ht j (A:=ai (ad (c.P f).blk (c.P f).off)) (n:=(c.P f).n) (cp:=(c.P f).cap) hl (by rw[V];exact z) c0 c1 (by omega);refine gM k j hd (s:=.v aq [.vw f l.toNat B.toNat]) ⟨by omega,by omega,λQ=>(by rw[hq]at Q;cases Q),λ_=> ?_⟩ (λm hm=>by simp[cX,bP]at hm;subst hm;rw[hg];simp) (y O M);by_cases S:(c.P f).cap=l.toNat
     ·refine .inr ⟨S.symm,(c.P f).off,by omega,?_⟩;rw[bm S,show B.toNat-l.toNat=0 by omega,show(c.P f).cap-l.toNat=0 by omega]
     ·refine .inl ⟨by omega,?_⟩;rw[bk S];simp only[jf,Addr.ot,he]
   cases ob with
   |row e' ex xs=>obtain⟨H,h4⟩:=cZ h3;have:=aX H;subst this;obtain⟨i1,i2,ti,i3,i4,i5⟩:=lA k hg;exact N xs i1 i2 ⟨ti,i3,i4⟩ (λh=>(i5 h).1) h4
   |f_ e' xs=>
    obtain⟨H,h4⟩:=cZ h3;have:=aX H;subst this;obtain⟨i1,i2,i3⟩:=mZ k hg;refine N xs i1 i2 i3 (λhb=> ?_) h4;obtain⟨j1,j2,_⟩:=k.obj f _ hg;rw[eS hb]at j1;by_cases hz:0<xs.length
    ·obtain⟨t3,U,L⟩:=j1.Jd hz;rw[j2];exact L.cap
    ·omega
   |_=>simp at h3
  |vw f i R=>
   obtain⟨ob,hg,h3⟩:=bu h3;have hg:=dF hg
   have N:(∃ti,E.ty el=ai ti/\(c.P f).sz=ti.ks.length)->((c.P f).nil=ao->(c.P f).n=0)->((c.P f).nil=aq->(c.P f).n<=(c.P f).cap)->
     ((oy lo 0).bind λl=>(oy hi ((R-i:aN):az)).bind λh=>Rd.ret (gA l h ((R-i:aN):az),AV.vw f (i+l.toNat) (i+h.toNat))).val σ=ai (b,q)->hN P E σ a w c o e.ws:=by
    intro hj h7 Y h4
    obtain⟨l,hl,h4⟩:=bu h4
    obtain⟨B,z,h4⟩:=bu h4
    obtain⟨rfl,rfl⟩:=bX (aL h4)
    obtain rfl:=aL h
    have C:gA l B ((R-i:aN):az)=true:=C
    simp only[gA,aM,ba]at C
    obtain⟨⟨c0,c1⟩,c2⟩:=C
    obtain⟨ti,ht,he⟩:=hj
    obtain rfl:te=ti:=aL (h9.symm.trans ht)
    obtain⟨v1,v2,v3,v4⟩:=O
    cases hq:(c.P f).nil with
    |true=>
     have hz:=h7 hq;have ex:=v3 hq;have x1:R=0:=by omega
     have x4:i=0:=by omega
     subst x1;subst x4;have h0:B=0:=by simp at c2;omega
     have l0:l=0:=by omega
     subst h0;subst l0;have M:=k6 (P:=P) (te:=te) hE X ht j (A:=ay) (n:=0) (cp:=0) hl (by simpa using z) (by omega) (by omega) (by simp);refine gM k j hd (s:=.v aq [.vw f (0+(0:az).toNat) (0+(0:az).toNat)]) (v:=.slice ay 0 0) ⟨bW _,bB _,λ_=>rfl,λQ=>by rw[hq]at Q;cases Q⟩ (λm hm=>by simp[cX,bP]at hm;subst hm;rw[hg];simp) (y ex (by simpa using M))
    |false=>
     have Y:=Y hq;rcases v4 hq with ⟨u1,ex⟩|⟨u1,oo,u2,ex⟩
     ·have M:=k6 (P:=P) (te:=te) hE X ht j (A:=ai (ad (c.P f).blk ((c.P f).off+i*(c.P f).sz))) (n:=R-i) (cp:=(c.P f).cap-i) hl z c0 c1 (by omega);refine gM k j hd (s:=.v aq [.vw f (i+l.toNat) (i+B.toNat)]) ⟨by omega,by omega,λQ=>(by rw[hq]at Q;cases Q),λ_=> ?_⟩ (λm hm=>by simp[cX,bP]at hm;subst hm;rw[hg];simp) (y ex M);by_cases S:(c.P f).cap-i=l.toNat
      ·refine .inr ⟨by omega,(c.P f).off+i*(c.P f).sz,?_,?_⟩
       ·have:=b9 (c.P f).sz (Nat.le_of_lt u1);omega
       ·rw[bm S,show B.toNat-l.toNat=0 by omega,show(c.P f).cap-i-l.toNat=0 by omega]
      ·refine .inl ⟨by omega,?_⟩;rw[bk S];simp only[jf,Addr.ot,he];rw[show i+B.toNat-(i+l.toNat)=B.toNat-l.toNat by omega,show(c.P f).cap-(i+l.toNat)=(c.P f).cap-i-l.toNat by omega,dv,kc]
     ·have M:=k6 (P:=P) (te:=te) hE X ht j (A:=ai (ad (c.P f).blk oo)) (n:=0) (cp:=0) hl (by rw[show R-i=0 by omega]at z;exact z) c0 c1 (by omega);have h0:B=0:=by omega
      have l0:l=0:=by omega
      subst h0;subst l0;refine gM k j hd (s:=.v aq [.vw f (i+(0:az).toNat) (i+(0:az).toNat)]) (v:=.slice (ai (ad (c.P f).blk oo)) 0 0) ⟨bW _,by simp;omega,λQ=>(by rw[hq]at Q;cases Q),λ_=>.inr ⟨by simpa using u1,oo,u2,rfl⟩⟩ (λm hm=>by simp[cX,bP]at hm;subst hm;rw[hg];simp) (y ex (by simpa using M))
   cases ob with
   |row e' ex xs=>obtain⟨H,h4⟩:=cZ h3;have:=aX H;subst this;obtain⟨i1,i2,ti,i3,i4,i5⟩:=lA k hg;exact N ⟨ti,i3,i4⟩ (λV=>by rw[i1,i2 V];rfl) (λh=>(i5 h).1) h4
   |f_ e' xs=>
    obtain⟨H,h4⟩:=cZ h3;have:=aX H;subst this;obtain⟨i1,i2,i3⟩:=mZ k hg;refine N i3 (λV=>by rw[i1,i2 V];rfl) (λhb=> ?_) h4;obtain⟨j1,j2,_⟩:=k.obj f _ hg;rw[eS hb]at j1;by_cases hz:0<xs.length
    ·obtain⟨t3,U,L⟩:=j1.Jd hz;rw[j2];exact L.cap
    ·omega
   |_=>simp at h3
  |nl=>
   obtain⟨l,hl,h4⟩:=bu h3;obtain⟨B,z,h4⟩:=bu h4;obtain⟨rfl,rfl⟩:=bX (aL h4);obtain rfl:=aL h;have C:gA l B 0=true:=C;simp only[gA,aM,ba]at C;obtain⟨⟨c0,c1⟩,c2⟩:=C;have h0:B=0:=by omega
   have l0:l=0:=by omega
   subst h0;subst l0;have M:=k6 (P:=P) (te:=te) hE X h9 j (A:=ay) (n:=0) (cp:=0) hl z (by omega) (by omega) (by simp);exact gM k j hd (s:=.v aq [.nl]) (v:=.slice ay 0 0) rfl (λn V=>by simp[cX,bP]at V) (y O (by simpa using M))
  |_=>simp[Uk]at h3
 |_=>simp[LJ]at h3
end
end Go.FG
namespace Go.FG
section
variable {P:dx} {E:gy} {σ:St} {a:Act} {w:cN} {c:gQ} {o:ia} {nm:aN} {e:tF}
def P5(k:Ok E σ w c)(m:eI E w c x v)(h:(mG E x).val σ=ai (el,xs)):∃A cp,v=.slice A xs.length cp:=by
 cases x with
 |sh u f=>
  obtain⟨rfl,rfl⟩:=bX (aL h);have m:Holds E w c.K v (.l u f):=m;cases m with
  |nl=>exact⟨_,_,rfl⟩
  |l=>exact⟨_,_,rfl⟩
 |own n=>
  obtain⟨ob,hg,h⟩:=bu h;have hg:=dF hg;have m:v=kX (c.P n):=m;have d:∀f:Row,(c.P n).n=f.length->((c.P n).nil=ao->f=[])->∃A cp,v=.slice A f.length cp:=by
   intro f h1 h2;cases hq:(c.P n).nil with
   |true=>rw[m,nO hq,h2 hq];exact⟨_,_,rfl⟩
   |false=>rw[m,eS hq,h1];exact⟨_,_,rfl⟩
  cases ob with
  |row u ex f=>obtain⟨rfl,rfl⟩:=bX (aL h);obtain⟨s,t,_⟩:=lA k hg;exact d _ s t
  |f_ u f=>obtain⟨rfl,rfl⟩:=bX (aL h);obtain⟨s,t,_⟩:=mZ k hg;exact d _ s t
  |_=>simp at h
 |vw n lo hi=>
  obtain⟨ob,hg,h⟩:=bu h;have hg:=dF hg;obtain⟨v1,v2,v3,v4⟩:=m;have d:∀f:Row,(c.P n).n=f.length->((c.P n).nil=ao->f=[])->((c.P n).nil=aq->(c.P n).n<=(c.P n).cap)->∃A cp,v=.slice A (ez f lo hi).length cp:=by
   intro f h1 h2 h3;rw[mD (by omega)];cases hq:(c.P n).nil with
   |true=>have:=h2 hq;subst this;rw[v3 hq,show hi-lo=0 by simp at h1;omega];exact⟨_,_,rfl⟩
   |false=>
    rcases v4 hq with ⟨_,h⟩|⟨u1,oo,_,h⟩
    ·rw[h];exact⟨_,_,rfl⟩
    ·have:=h3 hq;rw[h,show hi-lo=0 by omega];exact⟨_,_,rfl⟩
  cases ob with
  |row u ex f=>obtain⟨rfl,rfl⟩:=bX (aL h);obtain⟨s,t,ti,_,_,i5⟩:=lA k hg;exact d _ s t (λh=>(i5 h).1)
  |f_ u f=>
   obtain⟨rfl,rfl⟩:=bX (aL h);obtain⟨s,t,_⟩:=mZ k hg;refine d _ s t (λC=> ?_);obtain⟨R,j2,_⟩:=k.obj n _ hg;rw[eS C]at R;by_cases hz:0<f.length
   ·obtain⟨t3,U,L⟩:=R.Jd hz;rw[j2];exact L.cap
   ·omega
  |_=>simp at h
 |mK n i j=>
  obtain⟨ob,hg,h⟩:=bu h;have hg:=dF hg;cases ob with
  |row u ex f=>
   cases ex with
   |false=>simp at h
   |true=>
   obtain⟨te,H,h⟩:=bu h;have H:=dZ H;split at h
   ·rename_i S B;obtain⟨rfl,rfl⟩:=bX (aL h);obtain⟨⟨z,m⟩,_⟩:=m;obtain⟨⟨tj,M,X,kJ⟩,y,_⟩:=k.obj n _ hg;obtain rfl:te=tj:=aL (H.symm.trans M);obtain⟨zs,y',hy,N,uu,_,tk,Y,V,Q,O,r⟩:=uY (c:=c) y kJ z B;rw[fF hy N];cases hq:(c.G n i j).nil with
    |true=>rw[m,nO hq,show jd (.l S zs)=zs from rfl,(r.nil hq).1];exact⟨_,_,rfl⟩
    |false=>rw[m,eS hq,r.n];exact⟨_,_,rfl⟩
   ·simp at h
  |_=>simp at h
 |_=>simp[mG]at h
def mT(f:o.op=.call cl)(d:cl.callee=.builtin b):
  ∃cs,(execOp a.eval o).run P w=(builtin b cl.argTypes o.type cs (cl.args.map a.eval)).run P w:=by unfold execOp;rw[f];simp only[resolve,d,cx,c8,bI,invoke];exact⟨_,rfl⟩
def nG(h:x.toList=[y]):x= #[y]:=by apply tw;simpa using h
def DE(h:x.toList=[y,z]):x= #[y,z]:=by apply tw;simpa using h
def aeZ(hE:eB P E)(i:Ok E σ w c)(K:fw E σ a w c)(hd:∀d,o.dst=ai d->d<a.tmps.size)(S:o.op=.call cl)(R:cl.callee=.builtin .len)(h:(mg E nm o).val σ=ai e):hN P E σ a w c o e.ws:=by
 simp only[mg,S,R]at h;split at h
 ·rename_i x t Q N;obtain⟨k,hk,h⟩:=bu h;obtain⟨v,h1,h⟩:=bu h;obtain⟨n,h2,h⟩:=bu h;obtain⟨z,Y⟩:=i7 K h1;have Q:=nG Q;have N:=nG N;have B:∀r,(wK #[t] o.type #[a.eval x]).run P w=.ok r w->(execOp a.eval o).run P w=.ok (.value r) w:=by intro r u;obtain⟨cs,M⟩:=mT (P:=P) (a:=a) (w:=w) S R;rw[M,Q,N];simp only[builtin,DZ,fD,wb];exact iZ u
  have fin:∀m:aN,n=m->(wK #[t] o.type #[a.eval x]).run P w=.ok (goInt m) w->hN P E σ a w c o e.ws:=by intro m hm u;subst hm;exact gg i K hd h (v:=goInt m) rfl (λn H=>by simp[cX,bP]at H) (B _ u)
  cases k with
  |s=>cases v with
   |s s=>obtain rfl:=aL h2;have z:a.eval x=.string s:=z.1;exact fin s.size rfl (by rw[z];simp[wK,run_underlying (lz hE hk)])
   |_=>simp[aeh]at h2
  |l el=>
   have X:=kY hE hk;have sl:∀A (m:aN) cp,a.eval x=.slice A m cp->n=m->hN P E σ a w c o e.ws:=by intro A m cp O H;exact fin m H (by rw[O];simp[wK,run_underlying X])
   have C:∀(f:aN) (xs:Row),(mG E v).val σ=ai (f,xs)->n=xs.length->hN P E σ a w c o e.ws:=by intro f xs u H;obtain⟨A,cp,O⟩:=P5 i z u;exact sl _ _ _ O H
   cases v with
   |nl=>obtain rfl:=aL h2;exact sl ay 0 0 z rfl
   |vw m lo hi=>
    obtain⟨ob,hg,h2⟩:=bu h2;have hg:=dF hg;have r1:∃(j:aN) (y:Row),(mG E (.vw m lo hi)).val σ=ai (j,ez y lo hi)/\(c.P m).n=y.length/\n=((hi-lo:aN):az):=by
     cases ob with
     |row j ex y=>exact⟨j,y,by simp[mG,jP,hg],(lA i hg).1,(aL h2).symm⟩
     |f_ j y=>exact⟨j,y,by simp[mG,jP,hg],(mZ i hg).1,(aL h2).symm⟩
     |_=>simp at h2
    obtain⟨j,y,U,h6,V⟩:=r1;refine C j _ U ?_;rw[mD (by have:=z.2.1;omega)];exact V
   |_=>obtain⟨⟨f,xs⟩,u,h3⟩:=bu h2;obtain rfl:=aL h3;exact C f xs u rfl
  |_=>simp[aeh]at h2
 ·simp at h
end
end Go.FG
namespace Go.FG
section
variable {P:dx} {E:gy} {σ:St} {a:Act} {w:cN} {c:gQ} {o:ia} {nm:aN} {e:tF}
def Af(h:(TW x).val σ=ai r):x=ai r:=by
 cases x with
 |none=>simp[TW]at h
 |some y=>exact h
def aeY(hE:eB P E)(j:Ok E σ w c)(f:fw E σ a w c)(hd:∀d,o.dst=ai d->d<a.tmps.size)(u:o.op=.call cl)(s:cl.callee=.builtin .cap)(h:(mg E nm o).val σ=ai e):hN P E σ a w c o e.ws:=by
 simp only[mg,u,s]at h;split at h
 ·rename_i x t r m;obtain⟨k,hk,h⟩:=bu h;have r:=nG r;have m:=nG m;cases k with
  |l el=>
   obtain⟨v,h1,h⟩:=bu h;obtain⟨y,B⟩:=i7 f h1;have A:=kY hE hk;cases v with
   |nl=>refine gg j f hd h (v:=goInt 0) rfl (λn z=>by simp[cX,bP]at z) ?_;obtain⟨cs,i⟩:=mT (P:=P) (a:=a) (w:=w) u s;rw[i,r,m];simp only[builtin,DZ,fD,wb];refine iZ ?_;rw[show a.eval x=.slice ay 0 0 from y];simp[Builtin.cap_,run_underlying A]
   |_=>simp at h
  |_=>simp at h
 ·simp at h
def Ld(f:fw E σ a w c)(mx:aZ):∀(r:aE fB) (k:tL) (n:az) (v:AV),(yo mx r k n).val σ=ai v->
  ∃m,v=.i k m/\((r.map a.eval).foldlM (if mx then Ez else EA) (.int k n)).run P w=.ok (.int k m) w:=by
 intro r;induction r with
 |nil=>intro k n v h;obtain rfl:=aL h;exact⟨n,rfl,rfl⟩
 |cons x r ih=>
  intro k n v h;obtain⟨⟨j,m⟩,h1,h2⟩:=bu h;have s:=qq f h1;obtain⟨q,hq,d⟩:=ih k (eE mx n m) v h2;refine⟨q,hq,?_⟩
  simp only[fD,List.foldlM_cons,cx,s];cases mx with
  |true=>
   have:(Ez (.int k n) (.int j m)).run P w=.ok (.int k (eE ao n m)) w:=by simp[Ez,eE]
   simp only[if_true,this,bI]at d⊢;exact d
  |false=>
   have:(EA (.int k n) (.int j m)).run P w=.ok (.int k (eE aq n m)) w:=by simp[EA,eE]
   simp only[dq,if_false,this,bI]at d⊢;exact d
def Fq(mx:aZ)(z:Ok E σ w c)(j:fw E σ a w c)(hd:∀d,o.dst=ai d->d<a.tmps.size)(y:o.op=.call cl)(t:cl.callee=.builtin (if mx then .max else .min))(h:(mg E nm o).val σ=ai e):hN P E σ a w c o e.ws:=by
 have f:∀x r,cl.args.toList=x::r->((Dc x).bind λ(k,n)=>(yo mx r k n).bind λv=>Ay o v).val σ=ai e->hN P E σ a w c o e.ws:=by
  intro x r s h;obtain⟨⟨k,n⟩,h1,h⟩:=bu h;obtain⟨v,h2,h⟩:=bu h;have ex:=qq j h1;obtain⟨m,rfl,A⟩:=Ld (P:=P) j mx r k n v h2;refine gg z j hd h (v:=.int k m) rfl (λn B=>by simp[cX,bP]at B) ?_;obtain⟨cs,u⟩:=mT (P:=P) (a:=a) (w:=w) y t;have i:cl.args.map a.eval=((x::r).map a.eval).toArray:=by rw[<-s];apply tw;simp
  rw[u,i];cases mx with
  |true=>simp only[if_true,builtin];refine iZ ?_;simp only[Builtin.max_,fD,ex];exact A
  |false=>simp only[dq,if_false,builtin];refine iZ ?_;simp only[Builtin.min_,fD,ex];exact A
 cases mx with
 |true=>
  simp only[mg,y,t,if_true]at h;split at h
  ·rename_i x r s;exact f x r s h
  ·simp at h
 |false=>
  simp only[mg,y,t,dq,if_false]at h;split at h
  ·rename_i x r s;exact f x r s h
  ·simp at h
def Uf(hs:Ps op=aq)(h:adz op k m n=ai (b,v))(f:b=ao):
  ∃u,eI E w c v u/\bP v=[]/\(binOp op t (.int k m) (.int k n)).run P w=.ok u w:=by
 subst f;cases op<;>simp only[adz,jG,jg,true_and,reduceCtorEq]at h<;>first|(simp[Ps]at hs;done)|skip
 case quo=>
  obtain⟨h1,rfl⟩:=h
  have d:¬n=0:=by simpa using h1
  exact⟨_,rfl,rfl,by simp[binOp,Op.intDiv,d]⟩
 case rem=>
  obtain⟨h1,rfl⟩:=h
  have d:¬n=0:=by simpa using h1
  exact⟨_,rfl,rfl,by simp[binOp,Op.intDiv,d]⟩
 all_goals (subst h;exact⟨_,rfl,rfl,by simp[binOp,Op.intArith,Op.intBits,Op.intCmp]⟩)
def Ug(hs:Ps op=aq)(h:adB op m n=ai (b,v))(d:b=ao):
  ∃u,eI E w c v u/\bP v=[]/\(binOp op t (.string m) (.string n)).run P w=.ok u w:=by
 subst d;cases op<;>simp only[adB,jG,jg,true_and,reduceCtorEq]at h<;>first|(simp[Ps]at hs;done)|skip
 case add=>
  obtain⟨h1,rfl⟩:=h
  have h1:=cB h1
  refine⟨_,⟨rfl,by unfold DS;rw[dL];omega⟩,rfl,?_⟩
  have:¬(((m.size+n.size:aN):az)>ak.max):=by
   have:ak.max=9223372036854775807:=by decide
   omega
  simp only[binOp,Op.stringOp,bk this,c8]
 all_goals (subst h;exact⟨_,rfl,rfl,by simp[binOp,Op.stringOp]⟩)
def yB(f:∀xs,u≠ .agg xs)(d:u≠ .nilIface):(eqGuard op t x y u v).run P w=.ok () w:=by unfold eqGuard;cases op<;>cases u<;>first|rfl|(exact cO rfl (f _))|(exact cO rfl d)|(cases v<;>rfl)
def yA(w:cN)(h:P.underlying t=ai .bool)(m n:aZ):(binOp .eql t (.bool m) (.bool n)).run P w=.ok (.bool (m==n)) w/\(binOp .neq t (.bool m) (.bool n)).run P w=.ok (.bool !(m==n)) w:=by
 have h1:(Op.equal t (.bool m) (.bool n)).run P w=.ok (m==n) w:=by show(Op.equalIn (9999+1) t (.bool m) (.bool n)).run P w=_;exact run_equalIn_bool w 9999 t m n h
 simp only[binOp,cx,h1,bI,c8];exact⟨trivial,trivial⟩
def Dm{xs:aE AV}{ks:aE Ck}(hk:xs.map He=ks)(hp:plain ks=ao){d:eN bS}(hs:d.size=xs.length)(m:∀(j:aN) (a:AV),xs[j]? =ai a->∃u:bS,d[j]? =ai u/\eI E w c a u):d=(xs.map l_).toArray:=by
 apply tw;apply Vq;intro j;simp only[da,bJ];cases h:xs[j]? with
 |none=>have:=List.getElem?_eq_none_iff.1 h;simp;omega
 |some a=>
  obtain⟨u,k,i⟩:=m j a h;rw[k];have hm:He a∈ks:=by rw[<-hk];exact cU.2 ⟨a,aU h,rfl⟩
  have f:=bE.1 hp _ hm;cases a<;>simp[He]at f<;>first|(have h1:u=_:=i;rw[h1];rfl)|(have h1:u=_:=i.1;rw[h1];rfl)
def Wk(hE:eB P E){op:BinOp}{t:aN}{x y:fB}{sx sy:SV}{j z:bS}(ex:jb E w c sx j)(A:jb E w c sy z){b:aZ}{v:AV}(h3:(adA E t op sx sy).val σ=ai (b,v))(O:b=ao):
  ∃u,eI E w c v u/\bP v=[]/\(do eqGuard op t x y j z;binOp op t j z).run P w=.ok u w:=by
 have fin:∀u,eI E w c v u->bP v=[]->(do eqGuard op t x y j z;binOp op t j z).run P w=.ok u w->∃u,eI E w c v u/\bP v=[]/\(do eqGuard op t x y j z;binOp op t j z).run P w=.ok u w:=
  λu K C H=>⟨u,K,C,H⟩
 have pl:∀M Q r,j=M->z=Q->(∀xs,M≠ .agg xs)->M≠ .nilIface->(binOp op t M Q).run P w=.ok r w->(do eqGuard op t x y j z;binOp op t j z).run P w=.ok r w:=by intro M Q r h1 h2 h3 h4 R;rw[h1,h2];simp only[cx,yB (P:=P) (w:=w) (op:=op) (t:=t) (x:=x) (y:=y) (v:=Q) h3 h4,bI,R]
 unfold adA at h3;split at h3
 ·rename_i p q;have ex:eI E w c p j:=ex;have A:eI E w c q z:=A;cases kJ:Ps op with
  |true=>
   rw[kJ]at h3;replace h3:=Af h3;cases p<;>cases q<;>first|(simp[shV]at h3;done)|skip
   cases op<;>simp only[shV,jG,jg,reduceCtorEq]at h3<;>(obtain⟨rfl,rfl⟩:=h3)
   ·refine fin _ rfl rfl (pl _ _ _ ex A (by simp) (by simp) ?_);have:¬(_:az)<0:=Int.not_lt.2 (cB O);simp[binOp,Op.shift,this]
   ·refine fin _ rfl rfl (pl _ _ _ ex A (by simp) (by simp) ?_);have:¬(_:az)<0:=Int.not_lt.2 (cB O);simp[binOp,Op.shift,this]
  |false=>
   rw[kJ]at h3;obtain⟨k,hk,h3⟩:=bu h3;replace h3:=Af h3;cases p with
   |i k1 m=>
    cases q with
    |i k2 n=>
     have B:=h3;simp only[Kv]at B;split at B
     ·rename_i S;subst S;obtain⟨u,K,C,H⟩:=Uf (P:=P) (t:=t) (E:=E) (c:=c) (w:=w) kJ B O;exact fin u K C (pl _ _ _ ex A (by simp) (by simp) H)
     ·cases B
    |_=>simp[Kv]at h3
   |s m=>
    cases q with
    |s n=>obtain⟨u,K,C,H⟩:=Ug (P:=P) (t:=t) (E:=E) (c:=c) (w:=w) kJ h3 O;exact fin u K C (pl _ _ _ ex.1 A.1 (by simp) (by simp) H)
    |_=>simp[Kv]at h3
   |b m=>
    cases q with
    |b n=>
     have f:k=.b->P.underlying t=ai .bool:=by rintro rfl;obtain⟨ti,q1,q2,q3⟩:=sr hk;obtain⟨d,ha,_,C⟩:=hE.desc t ti q1;rcases C q2 with ⟨k,h,_⟩|⟨h,rfl⟩|⟨h,_⟩|⟨e',h,_⟩|⟨h,_⟩<;>rw[q3]at h<;>simp_all
     cases op<;>cases k<;>simp only[Kv,jG,jg,reduceCtorEq]at h3<;>(obtain⟨rfl,rfl⟩:=h3)
     ·refine fin _ rfl rfl (pl _ _ _ ex A (by simp) (by simp) ?_);exact(yA (P:=P) w (f rfl) _ _).1
     ·refine fin _ rfl rfl (pl _ _ _ ex A (by simp) (by simp) ?_);exact(yA (P:=P) w (f rfl) _ _).2
    |_=>simp[Kv]at h3
   |_=>simp[Kv]at h3
 ·rename_i xs ys;obtain⟨ti,U,h3⟩:=bu h3;have U:=dZ U;obtain⟨h4,h3⟩:=cZ h3;simp only[aM]at h4;obtain⟨⟨⟨⟨R,h6⟩,N⟩,h8⟩,B⟩:=h4;have N:=sk N;have h8:=sk h8;replace h3:=Af h3;obtain⟨X,hX,sX,vX⟩:=ex;obtain⟨Y,hY,sY,vY⟩:=A;have V:=Dm N B sX vX;have eY:=Dm h8 B sY vY;cases hq:Wv xs ys with
  |none=>rw[hq]at h3;cases h3
  |some r=>
   rw[hq]at h3;obtain⟨r1,r2⟩:=hE.eq t ti h6 U w x y xs ys r hq N h8;cases op<;>first|(simp[isEq]at R;done)|skip
   ·obtain⟨_,rfl⟩:=bX (aL h3);exact fin _ rfl rfl (by rw[hX,hY,V,eY];exact r1)
   ·obtain⟨_,rfl⟩:=bX (aL h3);exact fin _ rfl rfl (by rw[hX,hY,V,eY];exact r2)
 ·simp at h3
def TP(hE:eB P E)(j:Ok E σ w c)(f:fw E σ a w c)(hd:∀d,o.dst=ai d->d<a.tmps.size)(k:o.op=.binOp op t x y ty)(h:(mg E nm o).val σ=ai e)(m:e.cond=ao):hN P E σ a w c o e.ws:=by simp only[mg,k]at h;obtain⟨B,h1,h⟩:=bu h;obtain⟨C,h2,h⟩:=bu h;obtain⟨⟨b,v⟩,h3,h⟩:=bu h;obtain rfl:=aL h;obtain⟨u,A,r,z⟩:=Wk (P:=P) (x:=x) (y:=y) hE (mr f h1).1 (mr f h2).1 h3 m;refine gM j f hd (s:=.v aq [v]) A (λn i=>by simp[cX,r]at i) ?_;unfold execOp;rw[k];exact iZ z
end
end Go.FG
namespace Go.FG
def LZ(f:p.nil=aq->p.n<=p.cap)(i:p.nil=ao->p.n=0):xQ p 0 p.n (kX p):=by
 refine⟨bB _,bW _,λh=>nO h,λh=> ?_⟩
 rw[eS h];by_cases d:p.cap=0
 ·refine .inr ⟨d.symm,p.off,Nat.le_add_right _ _,?_⟩;have:=f h;rw[d,show p.n=0 by omega]
 ·refine .inl ⟨by omega,?_⟩;simp
def rI(xs:Row):ez xs 0 xs.length=xs:=by unfold ez;simp
def oF(w:cN)(v:bS)(xs:Row)(sz:aN)(R:aN->aN->bS->CV->Prop):Prop:=
 ∃A cp,v=.slice A xs.length cp/\(xs≠[]->∃b o,A=ai (ad b o)/\∀(i:aN) (y:aE CV) (j:aN) (x:CV),xs[i]? =ai y->y[j]? =ai x->∃u:bS,w.cell? (ad b (o+i*sz+j))=ai u/\R i j u x)
def oF.imp(h:oF w v xs sz R)(k:∀(i:aN) (y:aE CV) (j:aN) (x:CV) (u:bS),xs[i]? =ai y->y[j]? =ai x->R i j u x->R' i j u x):oF w v xs sz R':=by
 obtain⟨A,cp,h1,h2⟩:=h;refine⟨A,cp,h1,λd=> ?_⟩
 obtain⟨b,o,h3,h4⟩:=h2 d;refine⟨b,o,h3,λi y j x hi f=> ?_⟩
 obtain⟨u,r,m⟩:=h4 i y j x hi f;exact⟨u,r,k i y j x u hi f m⟩
def LR(h:jq w p xs R)(K:xQ p lo hi v):oF w v (ez xs lo hi) p.sz (λi j u x=>R (lo+i) j u x):=by
 obtain⟨U,N,O,Q⟩:=K;have hl:=mD (xs:=xs) (lo:=lo) (hi:=hi) (by rw[<-h.n];exact N);cases hq:p.nil with
 |true=>
  have m:=(h.nil hq).1;have h0:=h.n;rw[m]at h0;refine⟨ay,0,?_,λf=>cO (by rw[m];unfold ez;simp) f⟩
  rw[O hq,hl];have:p.n=0:=h0;congr 1;omega
 |false=>
  obtain⟨r,s,B,z,k,t⟩:=h.mem hq;rcases Q hq with ⟨M,rfl⟩|⟨M,oo,S,rfl⟩
  ·refine⟨_,_,by rw[hl],λf=>⟨_,_,rfl,λi y j x d A=> ?_⟩⟩
   rw[uF]at d;split at d
   ·obtain⟨u,H,C⟩:=t (lo+i) y j x d A;refine⟨u,?_,C⟩
    rw[s.cell,<-H];congr 1;rw[dv];omega
   ·cases d
  ·have h0:hi-lo=0:=by omega
   refine⟨_,_,by rw[hl,h0],λf=>cO (eU (hl.trans h0)) f⟩
def I9{E:gy}{w:cN}{K:aN->Prop}{p:Pl}{e:aN}{te:TI}{xs:Row}(i:E.ty e=ai te)(h:Holds E w K (kX p) (.l e xs))(d:p.n=xs.length)(hs:p.sz=te.ks.length){lo hi:aN}{v:bS}(j:xQ p lo hi v):Holds E w K v (.l e (ez xs lo hi)):=by
 obtain⟨s,f,t,u⟩:=j;have hl:=mD (xs:=xs) (lo:=lo) (hi:=hi) (by rw[<-d];exact f);have nil:hi-lo=0->ez xs lo hi=[]:=λh0=>eU (hl.trans h0);cases hq:p.nil with
 |true=>
  rw[nO hq]at h;have k:xs=[]:=by cases h;rfl
  subst k;have d:p.n=0:=d;rw[t hq,nil (by omega)];exact .nl _ _ _
 |false=>
  rw[eS hq]at h;rcases u hq with ⟨r,rfl⟩|⟨r,oo,x,rfl⟩
  ·have:=(Fa (lo:=lo) (hi:=hi) i h s (by rw[<-d];exact f)).2;rw[bk (by omega)]at this;simpa only[jf,Addr.ot,hs]using this
  ·by_cases m:hi-lo=0
   ·rw[nil m];exact .nl _ _ _
   ·have h1:0<xs.length:=by omega
    obtain⟨t3,U,L⟩:=h.Jd h1;have:=L.cap;omega
def Au{E:gy}{w:cN}{K:aN->Prop}{v:bS}{e:aN}{te:TI}{xs:Row}(m:E.ty e=ai te)(h:Holds E w K v (.l e xs)):oF w v xs te.ks.length (λ_ _ u x=>Holds E w K u x)/\∀y∈xs,y.map CV.kd=te.ks:=by
 cases h with
 |nl=>exact⟨⟨_,_,rfl,λh=>cO rfl h⟩,λy s=>by cases s⟩
 |l _ _ b o cp ti U r z hm t hs d f=>obtain rfl:te=ti:=aL (m.symm.trans r);exact⟨⟨_,_,rfl,λ_=>⟨b,o,rfl,λi y j x hi k=>⟨U i j,d i j y x hi k,f i j y x hi k⟩⟩⟩,hs⟩
def pL{E:gy}{w:cN}{K:aN->Prop}{u:bS}{x:CV}(h:Holds E w K u x)(hl:uQ x=aq):Sc u x:=by
 cases h with
 |i=>exact⟨rfl,trivial⟩
 |b=>exact⟨rfl,trivial⟩
 |s _ h=>exact⟨rfl,h⟩
 |nl=>simp[uQ]at hl
 |l=>simp[uQ]at hl
def k7{E:gy}{w:cN}{K:aN->Prop}{u:bS}{x:CV}(hl:uQ x=aq)(h:Sc u x):Holds E w K u x:=by
 obtain⟨h1,h2⟩:=h;subst h1;cases x with
 |i k n=>exact .i k n
 |b x=>exact .b x
 |s x=>exact .s x h2
 |l=>simp[uQ]at hl
def u7{E:gy}{w:cN}{G:aN->aN->Pl}{i j:aN}{u:bS}{x:CV}(h:XC E w G i j u x)(hl:uQ x=aq):Sc u x:=by
 cases x with
 |l=>simp[uQ]at hl
 |i=>exact h
 |b=>exact h
 |s=>exact h
def uZ{E:gy}{w:cN}{G:aN->aN->Pl}{i j:aN}{u:bS}{x:CV}(hl:uQ x=aq)(h:Sc u x):XC E w G i j u x:=by
 cases x with
 |l=>simp[uQ]at hl
 |i=>exact h
 |b=>exact h
 |s=>exact h
def oF.list(h:oF w v xs sz R)(hs:∀y∈xs,y.length=sz):
  ∃(A:aG Addr) (cp:aN) (k:aE bS),v=.slice A xs.length cp/\k.length=xs.length*sz/\(xs=[]\/∃b o,A=ai (ad b o)/\∀j u,k[j]? =ai u->w.cell? (ad b (o+j))=ai u)/\
   ∀(i:aN) (y:aE CV) (j:aN) (x:CV),xs[i]? =ai y->y[j]? =ai x->∃u:bS,k[i*sz+j]? =ai u/\R i j u x:=by
 obtain⟨A,cp,rfl,h2⟩:=h;by_cases B:xs=[]
 ·subst B;exact⟨A,cp,[],rfl,by simp,.inl rfl,λi y j x hi d=>by simp at hi⟩
 ·obtain⟨b,o,h3,h4⟩:=h2 B;have ex:∀q,q<xs.length*sz->∃u,w.cell? (ad b (o+q))=ai u:=by
   intro q hq;have m:0<sz:=by rcases DP sz with h|h;(subst h;simp at hq);exact h
   have hi:q/sz<xs.length:=by rw[yS m];exact hq
   have d:q%sz<xs[q/sz].length:=by rw[hs _ (bF hi)];exact F0 _ m
   obtain⟨u,z,_⟩:=h4 (q/sz) xs[q/sz] (q%sz) (xs[q/sz][q%sz]) (by simp[hi]) (by simp[d]);refine⟨u,?_⟩
   rw[<-z];congr 2;have:=JV q sz;rw[Ii]at this;omega
  refine⟨A,cp,(c7 (xs.length*sz)).map (λq=>(w.cell? (ad b (o+q))).getD undef),rfl,by simp,.inr ⟨b,o,h3,λj u d=> ?_⟩,λi y j x hi d=> ?_⟩
  ·rw[bJ]at d;by_cases f:j<xs.length*sz
   ·obtain⟨H,r⟩:=ex j f;simp only[f,wa,jf,r,zf,jG]at d;rw[r,d]
   ·rw[ll (l:=c7 (xs.length*sz)) (by simpa using f)]at d;cases d
  ·obtain⟨u,z,C⟩:=h4 i y j x hi d;refine⟨u,?_,C⟩
   have s:=(aW.1 hi).1;have f:=(aW.1 d).1;rw[hs y (aU hi)]at f;have t:i*sz+j<xs.length*sz:=by have:(i+1)*sz<=xs.length*sz:=b9 _ s;rw[dv]at this;omega
   rw[bJ,wa t,jf];rw[show o+(i*sz+j)=o+i*sz+j by omega,z];rfl
section
variable {P:dx} {E:gy} {σ:St} {a:Act} {w:cN} {c:gQ} {o:ia} {nm:aN} {e:tF}
def yx(d:Ok E σ w c){nm e:aN}{ex:aZ}{xs:Row}(h:σ (dj nm)=.o (.row e ex xs)){lo hi:aN}{v:bS}(f:xQ (c.P nm) lo hi v):
  ∃te,E.ty e=ai te/\(∀y∈ez xs lo hi,y.map CV.kd=te.ks)/\oF w v (ez xs lo hi) te.ks.length (λi j u x=>if ex=ao then XC E w (c.G nm) (lo+i) j u x else Holds E w c.K u x):=by obtain⟨⟨ti,h1,h2,h3⟩,h4,_⟩:=d.obj nm _ h;have:=LR h4 f;rw[h2]at this;exact⟨ti,h1,λy k=>h3 y (C5 k),this⟩
def wD(f:Ok E σ w c){nm e:aN}{ex:aZ}{xs:Row}(h:σ (dj nm)=.o (.row e ex xs)):xQ (c.P nm) 0 xs.length (kX (c.P nm)):=by obtain⟨h1,h2,ti,h3,h4,i⟩:=lA f h;rw[<-h1];exact LZ (λd=>(i d).1) (λd=>by rw[h1,h2 d];rfl)
def I7(d:Ok E σ w c){nm e:aN}{xs:Row}(h:σ (dj nm)=.o (.f_ e xs)):xQ (c.P nm) 0 xs.length (kX (c.P nm)):=by
 obtain⟨h1,h2,ti,h3,h4⟩:=mZ d h;rw[<-h1];refine LZ (λf=> ?_) (λf=>by rw[h1,h2 f];rfl);obtain⟨i,k,_⟩:=d.obj nm _ h;rw[eS f]at i;by_cases j:0<xs.length
 ·obtain⟨t3,U,L⟩:=i.Jd j;rw[k];exact L.cap
 ·omega
def pG(d:Ok E σ w c){nm e:aN}{xs:Row}(h:σ (dj nm)=.o (.f_ e xs)){lo hi:aN}{v:bS}(f:xQ (c.P nm) lo hi v):Holds E w c.K v (.l e (ez xs lo hi)):=by obtain⟨h1,h2,ti,h3,h4⟩:=d.obj nm _ h;exact I9 h3 h1 h2 h4 f
def B7(A:Ok E σ w c){nm e s i j:aN}{xs:Row}{te:TI}(h:σ (dj nm)=.o (.row e ao xs))(N:E.ty e=ai te)(hk:te.ks[j]? =ai (.l s))(hi:i<(c.P nm).n):
  ∃r y m,xs[i]? =ai y/\y[j]? =ai (.l s r)/\E.ty s=ai m/\plain m.ks=ao/\(c.G nm i j).sz=m.ks.length/\(∀y∈r,y.map CV.kd=m.ks)/\jq w (c.G nm i j) r (λ_ _ u x=>Sc u x)/\xQ (c.G nm i j) 0 r.length (kX (c.G nm i j)):=by
 obtain⟨⟨Q,C,M,kJ⟩,t,_⟩:=A.obj nm _ h;obtain rfl:te=Q:=aL (N.symm.trans C);obtain⟨zs,y,O,K,R,_,tk,H,B,k,f,d⟩:=uY (c:=c) t kJ hi hk;refine⟨zs,y,tk,O,K,H,B,k,f,d,?_⟩
 have:=LZ (p:=c.G nm i j) (λz=>by obtain⟨_,_,q,_⟩:=d.mem z;exact q) (λz=>by rw[d.n,(d.nil z).1];rfl);rwa[d.n]at this
def Po{E:gy}{w:cN}{K:aN->Prop}{v:bS}{e:aN}{xs:Row}(h:Holds E w K v (.l e xs)):xs.length<=maxLen:=by
 cases h with
 |nl=>exact bB _
 |l _ _ b o cp ti U f d hm=>exact ca d hm
def uX(h:jq w p xs R):xs.length<=maxLen:=by
 cases d:p.nil with
 |true=>rw[(h.nil d).1];exact bB _
 |false=>obtain⟨f,_,h2,h3,_⟩:=h.mem d;rw[<-h.n];exact ca h2 h3
def JQ(xs:Row)(lo hi:aN):(ez xs lo hi).length<=xs.length:=by unfold ez;simp;omega
def A1(d:Ok E σ w c){x:AV}{v:bS}(f:eI E w c x v){el:aN}{xs:Row}{te:TI}(h:(mG E x).val σ=ai (el,xs))(M:E.ty el=ai te)(hp:plain te.ks=ao):
  oF w v xs te.ks.length (λ_ _ u x=>Sc u x)/\(∀y∈xs,y.map CV.kd=te.ks)/\xs.length<=maxLen:=by
 have m:∀{xs:Row} {v:bS},Holds E w c.K v (.l el xs)->oF w v xs te.ks.length (λ_ _ u x=>Sc u x)/\(∀y∈xs,y.map CV.kd=te.ks)/\xs.length<=maxLen:=by intro xs v R;obtain⟨h1,h2⟩:=Au M R;exact⟨h1.imp λi y j x u hi C s=>pL s (im hp (h2 y (aU hi)) C),h2,Po R⟩
 have t:∀{nm:aN} {ex:aZ} {xs:Row} {lo hi:aN} {v:bS},σ (dj nm)=.o (.row el ex xs)->xQ (c.P nm) lo hi v->oF w v (ez xs lo hi) te.ks.length (λ_ _ u x=>Sc u x)/\(∀y∈ez xs lo hi,y.map CV.kd=te.ks)/\(ez xs lo hi).length<=maxLen:=by
  intro nm ex xs lo hi v hg U;obtain⟨Q,N,A,O⟩:=yx d hg U;obtain rfl:te=Q:=aL (M.symm.trans N);refine⟨O.imp λi y j x u hi C s=> ?_,A,ca (JQ _ _ _) (uX (d.obj nm _ hg).at_)⟩
  have hl:=im hp (A y (aU hi)) C;split at s
  ·exact u7 s hl
  ·exact pL s hl
 cases x with
 |sh r z=>obtain⟨rfl,rfl⟩:=bX (aL h);exact m f
 |own n=>
  obtain⟨ob,hg,h⟩:=bu h;have hg:=dF hg;have f:v=kX (c.P n):=f;subst f;cases ob with
  |row r ex z=>obtain⟨rfl,rfl⟩:=bX (aL h);have:=t hg (wD d hg);rwa[rI]at this
  |f_ r z=>obtain⟨rfl,rfl⟩:=bX (aL h);have:=m (pG d hg (I7 d hg));rwa[rI]at this
  |_=>simp at h
 |vw n lo hi=>
  obtain⟨ob,hg,h⟩:=bu h;have hg:=dF hg;cases ob with
  |row r ex z=>obtain⟨rfl,rfl⟩:=bX (aL h);exact t hg f
  |f_ r z=>obtain⟨rfl,rfl⟩:=bX (aL h);exact m (pG d hg f)
  |_=>simp at h
 |mK n i j=>
  obtain⟨ob,hg,h⟩:=bu h;have hg:=dF hg;cases ob with
  |row r ex z=>
   cases ex with
   |false=>simp at h
   |true=>
   obtain⟨t1,k,h⟩:=bu h;have k:=dZ k;split at h
   ·rename_i e2 H;obtain⟨rfl,rfl⟩:=bX (aL h);obtain⟨⟨B,f⟩,_⟩:=f;obtain⟨zs,y,Q,N,A,O,q4,V,X,S,Y⟩:=B7 d hg k H B;obtain rfl:te=Q:=aL (M.symm.trans O);rw[fF N A];have:=LR S Y;rw[rI,V]at this;subst f;exact⟨this,X,uX S⟩
   ·simp at h
  |_=>simp at h
 |_=>simp[mG]at h
end
end Go.FG
namespace Go.FG
def gh(E:gy)(w:cN)(c:gQ)(d:eN bS)(xs:aE AV):Prop:=
 d.size=xs.length/\∀(j:aN) (a:AV),xs[j]? =ai a->∃u:bS,d[j]? =ai u/\eI E w c a u
def qG.cells{E:gy}{w:cN}{c:gQ}{agg:aZ}{xs:aE AV}{v:bS}(h:qG E w c agg xs v):gh E w c v.cells xs:=by
 unfold qG at h;split at h
 ·rename_i a;rw[EP h.one];refine⟨rfl,λj k d=> ?_⟩
  cases j with
  |zero=>simp at d;subst d;exact⟨v,rfl,h⟩
  |succ=>simp at d
 ·obtain⟨f,rfl,hs,i⟩:=h;exact⟨hs,i⟩
 ·exact h.elim
def gh.one(h:gh E w c d xs):∀u∈d.toList,u.oneCell'=true:=by
 intro u k;obtain⟨j,f⟩:=b5 k;have i:j<xs.length:=by rw[<-h.1];have:=(aW.1 f).1;simpa using this
 obtain⟨m,h1,h2⟩:=h.2 j xs[j] (by simp[i]);rw[da,h1]at f;cases f;exact h2.one
def vN(h:j+d.length<=xs.length):(kG xs j d).length=xs.length:=by unfold kG;simp;omega
def pO(h:j+d.length<=xs.length)(k:aN):(kG xs j d)[k]? =if j<=k/\k<j+d.length then d[k-j]? else xs[k]? :=by
 unfold kG;by_cases h1:k<j
 ·rw[bk (by omega),cg,dz (by simp;omega),ej,bm h1]
 ·by_cases h2:k<j+d.length
  ·rw[bm ⟨by omega,h2⟩,cg,de (by simp;omega),dz (by simp;omega)];congr 1;simp;omega
  ·rw[bk (by omega),cg,de (by simp;omega),de (by simp;omega),eh];congr 1;simp;omega
def C4(h:x∈kG xs j d):x∈xs\/x∈d:=by
 unfold kG at h;simp only[a_]at h;rcases h with (h|h)|h
 ·exact .inl (iK h)
 ·exact .inr h
 ·exact .inl (lL h)
def gh.put(h:gh E w c d xs)(f:gh E w c vs r)(hl:j+r.length<=xs.length):gh E w c (ew d j vs.toList) (kG xs j r):=by
 have m:j+vs.toList.length<=d.size:=by rw[h.1,dM,f.1];exact hl
 refine⟨by rw[eT m,vN hl];exact h.1,λk a hk=> ?_⟩
 rw[pO hl]at hk;rw[gv m,dM,f.1];split at hk
 ·rename_i i;rw[bm i,da];exact f.2 _ a hk
 ·rename_i i;rw[bk i];exact h.2 k a hk
def SB(off:aN):∀(l:aE bS) (k:aN) (cells:eN bS),off+k+l.length<=cells.size->
  ((l.zipIdx k).foldl (λr p=>r.setIfInBounds (off+p.2) p.1) cells).size=cells.size/\
  ∀q:aN,((l.zipIdx k).foldl (λr p=>r.setIfInBounds (off+p.2) p.1) cells)[q]? =if off+k<=q/\q<off+k+l.length then l[q-(off+k)]? else cells[q]? :=by
 intro l;induction l with
 |nil=>intro k cells _;refine⟨rfl,λq=> ?_⟩;rw[bk (by simp)];rfl
 |cons v rest ih=>
  intro k cells hl;simp only[bT]at hl;obtain⟨h1,h2⟩:=ih (k+1) (cells.setIfInBounds (off+k) v) (by simp;omega);simp only[List.zipIdx_cons,pk];refine⟨by rw[h1];simp,λq=> ?_⟩
  rw[h2 q];by_cases hq:q=off+k
  ·subst hq;rw[bk (by omega),bm ⟨by omega,by simp⟩,oC,bm rfl,bm (by omega)];simp
  ·by_cases d:off+(k+1)<=q/\q<off+(k+1)+rest.length
   ·rw[bm d,bm ⟨by omega,by simp;omega⟩];rw[show q-(off+k)=(q-(off+(k+1)))+1 by omega,dQ]
   ·rw[bk d,bk (by simp;omega),oC,bk (λh=>hq h.symm)]
def EX{off:aN}{vs cells:eN bS}(h:off+vs.size<=cells.size):(vs.zipIdx.foldl (λr (p:bS×aN)=>r.setIfInBounds (off+p.2) p.1) cells)=ew cells off vs.toList:=by
 rw[<-Array.foldl_toList,Array.toList_zipIdx];obtain⟨h1,h2⟩:=SB off vs.toList 0 cells (by simpa using h);have d:off+vs.toList.length<=cells.size:=by simpa using h
 apply Array.ext_getElem?;intro q;rw[h2 q,gv d];simp
def Qe{E:gy}{w:cN}{c:gQ}{k:Ck}(h:(match k with|.o=>aq|_=>ao)=ao):eI E w c (DK k) (iM k):=by cases k<;>first|rfl|exact⟨rfl,bB _⟩|simp at h
def C7(k:Ck):bP (DK k)=[]:=by cases k<;>rfl
def JS(h:Li ks=ao):gh E w c (ks.map iM).toArray (ks.map DK):=by
 refine⟨by simp,λj a d=> ?_⟩
 rw[bJ]at d;cases hk:ks[j]? with
 |none=>rw[hk]at d;cases d
 |some k=>rw[hk]at d;cases d;exact⟨iM k,by simp[hk],Qe (bE.1 h k (aU hk))⟩
section
variable {P:dx} {E:gy} {σ:St} {a:Act} {w:cN} {c:gQ} {o:ia} {nm:aN} {e:tF}
def PV(hE:eB P E)(O:fw E σ a w c){t:aN}{pl:aE (aN×aN)}{size:aN}(N:∀f o n,E.fo t f=ai (o,n)->pl[f]? =ai (o,n)/\o+n<=size):∀(ps:aE (aN×fB)) (l:aE (aN×aE AV)),(Hq E t ps).val σ=ai l->
  ∀(d:eN bS) (xs:aE AV),gh E w c d xs->xs.length=size->(∀a∈xs,jm σ a)->
  ∃j,pS (λi=>pl[i]?) d (ps.map λ(i,x)=>(i,a.eval x))=ai j/\gh E w c j (Nk xs l)/\(∀a∈Nk xs l,jm σ a):=by
 intro ps;induction ps with
 |nil=>intro l h d xs u _ hk;obtain rfl:=aL h;exact⟨d,rfl,u,hk⟩
 |cons p r ih=>
  obtain⟨f,x⟩:=p;intro l h d xs u Q hk;obtain⟨v,h1,h⟩:=bu h;obtain⟨K,C⟩:=mr O h1;cases v with
  |v g y=>
   replace h:(match E.fo t f with|some (o,n)=>bif bN y.length n then(Hq E t r).bind λl=>.ret ((o,y)::l)else .fail|none=>.fail:Rd (aE (aN×aE AV))).val σ=ai l:=h;cases B:E.fo t f with
   |none=>rw[B]at h;simp at h
   |some q=>
    obtain⟨off,n⟩:=q;rw[B]at h;obtain⟨s,h⟩:=cZ h;have s:=aX s;obtain⟨V,H,h⟩:=bu h;obtain rfl:=aL h;obtain⟨M,U⟩:=N f off n B;have A:=qG.cells K;have k:off+y.length<=xs.length:=by omega
    obtain⟨j,X,Y,q3⟩:=ih V H (ew d off (a.eval x).cells.toList) (kG xs off y) (u.put A k) (by rw[vN k];exact Q)
     (λb m=>by
      rcases C4 m with m|m
      ·exact hk b m
      ·exact λn s=>C n (bL.2 ⟨b,m,s⟩))
    refine⟨j,?_,Y,q3⟩
    simp only[fD,pS,M];have R:(a.eval x).cells.size=n:=by rw[A.1,s]
    have S:¬(off+(a.eval x).cells.size>d.size):=by rw[A.1,u.1];omega
    rw[bk (by simp[R];rw[R]at S;omega)];have:=EX (off:=off) (vs:=(a.eval x).cells) (cells:=d) (by omega);rw[<-X];exact gu (λz=>pS (λi=>pl[i]?) z _) this
  |kz=>simp at h
  |un=>simp at h
def TQ(hE:eB P E)(B:Ok E σ w c)(s:fw E σ a w c)(hd:∀d,o.dst=ai d->d<a.tmps.size){t:aN}{ps:eN (aN×fB)}(Q:o.op=.build t ps)(h:(mg E nm o).val σ=ai e):hN P E σ a w c o e.ws:=by simp only[mg,Q]at h;obtain⟨ti,h1,h⟩:=bu h;obtain⟨u,h⟩:=cZ h;obtain⟨l,h2,h⟩:=bu h;have K:=dZ h1;simp only[aM]at u;obtain⟨r,j⟩:=u;obtain⟨Y,hi,U,_,_,X⟩:=hE.info t ti K;obtain⟨z,M,N,_⟩:=X r;obtain⟨d,m,S,_⟩:=hE.desc t ti K;obtain⟨fs,rfl,y⟩:=S j;obtain⟨pl,C,H⟩:=hE.pl t ti K j fs m;obtain⟨i,q1,R,q3⟩:=PV (size:=ti.ks.length) hE s (λf o n O=>⟨H f o n O,(y f o n O).choose_spec.2.2.2.2⟩) ps.toList l h2 _ _ (JS (w:=w) (c:=c) (E:=E) r) (by simp) (λb u=>by obtain⟨k,_,rfl⟩:=cU.1 u;exact uR (C7 k));refine gg B s hd h (v:=.agg i) ⟨i,rfl,R.1,R.2⟩ (λn A=>by obtain⟨x,V,A⟩:=bL.1 A;exact q3 x V n A) ?_;unfold execOp;rw[Q];refine iZ (run_build w t _ i ?_);simp only[Program.built,hi,m,M,C,N,ib,A5];exact q1
def TS(hE:eB P E)(N:Ok E σ w c)(A:fw E σ a w c)(hd:∀d,o.dst=ai d->d<a.tmps.size)(U:o.op=.field t x f)(h:(mg E nm o).val σ=ai e):hN P E σ a w c o e.ws:=by
 simp only[mg,U]at h;obtain⟨v,h1,h⟩:=bu h;obtain⟨hv,hk⟩:=mr A h1;cases v with
 |v g xs=>
  cases g with
  |true=>
   cases B:E.fo t f with
   |none=>rw[B]at h;simp at h
   |some r=>
    obtain⟨j,n⟩:=r;rw[B]at h;obtain⟨R,h⟩:=cZ h;rw[aM]at R;cases O:xs.drop j with
    |nil=>rw[O]at h;simp at h
    |cons y ys=>
     rw[O]at h;have S:xs[j]? =ai y:=by have:=eh (xs:=xs) (i:=j) (j:=0);rw[O]at this;simpa using this.symm
     obtain⟨k,q1,q2,q3⟩:∃k:eN bS,a.eval x=.agg k/\k.size=xs.length/\∀(j:aN) (b:AV),xs[j]? =ai b->∃u:bS,k[j]? =ai u/\eI E w c b u:=hv;obtain⟨u,hu,K⟩:=q3 j y S;obtain⟨ti,ht,H⟩:=hE.fo t f j n B;obtain⟨d,z,Y,_⟩:=hE.desc t ti ht;obtain⟨fs,rfl,M⟩:=Y H;obtain⟨V,Q,X,_⟩:=M f j n B;have C:=hE.fl t f R.1 fs V z Q w;refine gg N A hd h (s:=.v aq [y]) (v:=u) K (λm hm=>hk m (bL.2 ⟨y,aU S,by simpa [cX]using hm⟩)) ?_;unfold execOp;rw[U];refine iZ ?_;simp only[Instr.field,cx,run_underlying z,bI,Q,q1,asAgg,c8,part,C,dq,if_false,X,hu]
  |false=>simp at h
 |kz=>simp at h
 |un=>simp at h
def TN(hE:eB P E)(m:Ok E σ w c)(r:fw E σ a w c)(hd:∀d,o.dst=ai d->d<a.tmps.size)(s:o.op=.alloc t)(h:(mg E nm o).val σ=ai e):hN P E σ a w c o e.ws:=by
 simp only[mg,s]at h;obtain⟨ti,h1,h⟩:=bu h;obtain⟨f,h⟩:=cZ h;obtain⟨u,h2,h⟩:=bu h;obtain⟨x,j⟩:=kW h2;obtain rfl:=aL h;have z:=P7 (P:=P) w hE (dZ h1) f;refine CZ m r hd (p:=⟨aq,w.heap.size,0,0,0,0⟩) (g:=λ_ _=>⟨aq,0,0,0,0,0⟩) x j (λc' i _ _ _=> ?_) (λc' i _ b f=> ?_) (λxs A b f=> ?_) (λc' i _=> ?_) (λn y=>.inl (by simpa [cX,bP]using y)) (λb f=>heap_alloc_old w _ b f) (by simp) rfl rfl rfl (v:=.pointer (ai (ad w.heap.size 0))) (w':=w.alloc (.cells (ti.ks.map iM).toArray t)) ?_
 ·obtain⟨B,C⟩:=JS (E:=E) (w:=w.alloc (.cells (ti.ks.map iM).toArray t)) (c:=c') f;exact⟨_,by rw[i];exact og.alloc w _ t,B,C⟩
 ·have:b=(c'.P nm).blk:=f;rw[this,i];exact bW _
 ·cases A;obtain⟨k,_,rfl⟩:=cU.1 f;exact uR (C7 k)
 ·show _=_;rw[i]
 ·unfold execOp;rw[s];exact iZ z
def aeX(r:Ok E σ w c)(s:fw E σ a w c)(hd:∀d,o.dst=ai d->d<a.tmps.size)(B:o.op=.box t x)(h:(mg E nm o).val σ=ai e):hN P E σ a w c o e.ws:=by
 simp only[mg,B]at h;obtain⟨v,h1,h⟩:=bu h;obtain⟨Q,hk⟩:=mr s h1;cases v with
 |v g xs=>
  obtain⟨u,h2,h⟩:=bu h;obtain⟨M,z⟩:=kW h2;obtain rfl:=aL h;have N:=Uh (P:=P) w t (a.eval x);have C:∀b∈xs,jm σ b:=λb f n m=>hk n (bL.2 ⟨b,f,m⟩);have k:=qG.cells Q;refine CZ r s hd (p:=⟨aq,w.heap.size,0,0,0,0⟩) (g:=λ_ _=>⟨aq,0,0,0,0,0⟩) M z (λc' i _ K H=> ?_) (λc' i _ b f=> ?_) (λU R b f=> ?_) (λc' i _=> ?_) (λn m=>.inl (by simpa [cX,bP]using m)) (λb f=>heap_alloc_old w _ b f) (by simp) rfl rfl rfl (v:=.pointer (ai (ad w.heap.size 0))) (w':=w.alloc (.cells (a.eval x).cells t)) ?_
  ·refine⟨_,by rw[i];exact og.alloc w _ t,k.1,λj y A=> ?_⟩
   obtain⟨u,O,S⟩:=k.2 j y A;exact⟨u,O,S.frame (λb f=>heap_alloc_old w _ b (r.lt b f)) K (λn m=>H n (.inl (C y (aU A) n m)))⟩
  ·have:b=(c'.P nm).blk:=f;rw[this,i];exact bW _
  ·cases R;exact C b f
  ·show _=_;rw[i]
  ·unfold execOp;rw[B];exact iZ N
 |kz=>simp at h
 |un=>simp at h
end
end Go.FG
namespace Go.FG
def Lf(E:gy)(ks:aE Ck)(_i j:aN):Pl:=
 ⟨ao,0,0,0,0,match ks[j]? with|some (.l e)=>(match E.ty e with|some t=>t.ks.length|none=>0)|_=>0⟩
def wv(h:∀i j,(G i j).nil=ao):FW p G xs:=
 ⟨λi j _ d=>(by rw[h]at d;cases d),λi j f k _ _ d=>(by rw[h]at d;cases d)⟩
def OC(f:flat E ks=ao)(m:Li ks=ao)(hk:ks[j]? =ai k):XC E w (Lf E ks) i j (iM k) (Az k):=by
 have h1:=bE.1 f k (aU hk);have h2:=bE.1 m k (aU hk);cases k with
 |l e=>
  replace h1:(match E.ty e with|some ti=>plain ti.ks|none=>aq)=true:=h1;cases d:E.ty e with
  |none=>rw[d]at h1;cases h1
  |some t=>
   rw[d]at h1;refine⟨rfl,t,d,h1,?_,λy r=>(by cases r),⟨rfl,λ_=>⟨rfl,rfl⟩,λh=>by cases h⟩⟩
   show(match ks[j]? with|some (.l e)=>(match E.ty e with|some t=>t.ks.length|none=>0)|_=>0)=_;rw[hk];simp only[d]
 |o=>cases h2
 |s=>exact⟨rfl,bB _⟩
 |_=>exact⟨rfl,trivial⟩
def L7{E:gy}{w:cN}{K:aN->Prop}{k:Ck}(h2:(match k with|.o=>aq|_=>ao)=ao):Holds E w K (iM k) (Az k):=by
 cases k with
 |o=>cases h2
 |i k=>exact .i _ _
 |b=>exact .b _
 |s=>exact .s _ (bB _)
 |l e=>exact .nl _ _ _
def Y1(h2:(match k with|.o=>aq|_=>ao)=ao):(Az k).kd=k:=by cases k<;>first|rfl|cases h2
def yQ(d:Li ks=ao)(n:aN):∀y∈aR ks n,y.map CV.kd=ks:=by
 intro y f;rw[(List.mem_replicate.1 f).2,jL];have:∀k∈ks,(CV.kd∘Az) k=k:=λk hk=>Y1 (bE.1 d k hk);conv=>rhs;rw[<-OT ks]
 exact Qh this
def u9{ks:aE Ck}{n i j:aN}{y:aE CV}{x:CV}(hi:(aR ks n)[i]? =ai y)(f:y[j]? =ai x):i<n/\∃k,ks[j]? =ai k/\x=Az k:=by
 unfold aR at hi;have d:=(aW.1 hi).1;rw[List.length_replicate]at d;rw[List.getElem?_replicate,bm d]at hi;cases hi;rw[bJ]at f;cases hk:ks[j]? with
 |none=>rw[hk]at f;cases f
 |some k=>rw[hk]at f;cases f;exact⟨d,k,rfl,rfl⟩
def lW{ks:aE Ck}{n i j:aN}{k:Ck}(hi:i<n)(hk:ks[j]? =ai k):(madeCells (ks.map iM).toArray (n*ks.length))[i*ks.length+j]? =ai (iM k):=by
 have f:=(aW.1 hk).1;have d:i*ks.length+j<n*ks.length:=by have:(i+1)*ks.length<=n*ks.length:=b9 _ hi;rw[dv]at this;omega
 have hm:(i*ks.length+j)%ks.length=j:=by rw[Ii,Nat.mul_add_mod];exact Nat.mod_eq_of_lt f
 unfold madeCells;rw[OJ,Array.getElem?_range,bm d,jf];congr 1;simp only[Cr,bK,hm];rw[getElem!_def,ib,bJ,hk];rfl
def z8{P:dx}{E:gy}{σ:St}(hE:eB P E){t:aN}{k:tL}(h:(qo E t).val σ=ai (.i k)):P.underlying t=ai (.int k):=by obtain⟨ti,h1,h2,h3⟩:=sr h;obtain⟨d,hd,_,f⟩:=hE.desc t ti h1;rcases f h2 with ⟨k,h,rfl⟩|⟨h,_⟩|⟨h,_⟩|⟨j,h,_⟩|⟨h,_⟩<;>rw[h3]at h<;>simp_all
def Na{P:dx}{E:gy}(hE:eB P E){e:aN}{te:TI}(j:E.ty e=ai te)(h:(u8s te.ks&& !te.agg)=ao):te.ks=[.i .u8]/\P.underlying e=ai (.int .u8):=by
 simp only[aM,di]at h;have hk:te.ks=[.i .u8]:=by
  have:=h.1;unfold u8s at this;split at this
  ·assumption
  ·cases this
 obtain⟨d,hd,_,f⟩:=hE.desc e te j;refine⟨hk,?_⟩
 rcases f h.2 with ⟨k,h,rfl⟩|⟨h,_⟩|⟨h,_⟩|⟨m,h,_⟩|⟨h,_⟩<;>rw[hk]at h<;>simp_all
section
variable {P:dx} {E:gy} {σ:St} {a:Act} {w:cN} {c:gQ} {o:ia} {nm:aN} {e:tF}
def P8(hE:eB P E){src dst el:aN}{te:TI}(hs:P.underlying src=ai (.slice el))(hd:P.underlying dst=ai .string)(m:P.underlying el=ai (.int .u8))(hk:te.ks=[.i .u8]){v:bS}{xs:Row}
  (h:oF w v xs te.ks.length (λ_ _ u x=>Sc u x)) (kJ:∀y∈xs,y.map CV.kd=te.ks):(convert src dst v).run P w=.ok (.string (bytesOf xs)) w:=by
 obtain⟨A,cp,rfl,h2⟩:=h;by_cases t:xs=[]
 ·subst t;rw[jU];have z:bytesOf []=HY:=rfl;rw[z];cases A with
  |none=>exact run_convert_bytes_nil w src el hs m 0 cp dst hd
  |some j=>rw[run_convert_bytes_string w src dst el _ 0 cp hs m hd];exact run_bytesToString w j 0 cp [] rfl
 ·obtain⟨b,oo,rfl,h3⟩:=h2 t;have:=run_convert_bytes_arg w src el hs m b oo xs.length cp (xs.map λy=>bO (y.getD 0 (.b aq))) (by simp) (λi hi=>by
   have d:=kJ xs[i] (bF hi);rw[hk]at d;cases hq:xs[i]with
   |nil=>rw[hq]at d;cases d
   |cons x r=>
    rw[hq]at d;simp only[fD,ZD,List.map_eq_nil_iff]at d;obtain⟨f,rfl⟩:=d;obtain⟨u,s,B⟩:=h3 i xs[i] 0 x (by simp[hi]) (by rw[hq];rfl);rw[hk]at s;simp only[bT,jU,bV,Nat.mul_one,BJ]at s;rw[s,B.1];cases x with
    |i k n=>cases f;simp[Qa,eC,hi,hq,bO]
    |_=>cases f) dst hd
  rw[this];unfold strOfNums bytesOf;rw[jL];rfl
def ie(xs:Row):(bytesOf xs).size=xs.length:=by unfold bytesOf;simp[bf]
def mf(s:ar):(rC s).length=s.size:=by unfold rC;simp
def Hw{s:ar}{i j:aN}{y:aE CV}{x:CV}(hi:(rC s)[i]? =ai y)(f:y[j]? =ai x):j=0/\∃b,s.data[i]? =ai b/\x=.i .u8 (b.toNat:az):=by
 unfold rC at hi;rw[bJ,da]at hi;cases d:s.data[i]? with
 |none=>rw[d]at hi;cases hi
 |some b=>
  rw[d]at hi;cases hi;cases j with
  |zero=>cases f;exact⟨rfl,b,rfl,rfl⟩
  |succ j=>simp at f
def Jx(s:ar):∀y∈rC s,y.map CV.kd=[.i .u8]:=by intro y d;obtain⟨b,_,rfl⟩:=cU.1 d;rfl
def Lp(hE:eB P E)(m:Ok E σ w c)(t:fw E σ a w c)(hd:∀d,o.dst=ai d->d<a.tmps.size){src dst:aN}{x:fB}(O:o.op=.convert src dst x)(h:(mg E nm o).val σ=ai e)(S:e.cond=ao):hN P E σ a w c o e.ws:=by
 simp only[mg,O]at h;obtain⟨ks,h1,h⟩:=bu h;obtain⟨kd,h2,h⟩:=bu h;obtain⟨v,h3,h⟩:=bu h;obtain⟨z,kv⟩:=i7 t h3;have f:∀{u r:bS} {w':cN},a.eval x=u->(convert src dst u).run P w=.ok r w'->(execOp a.eval o).run P w=.ok (.value r) w':=by intro u r w' V U;unfold execOp;rw[O];exact iZ (by rw[V];exact U)
 cases kd with
 |i k=>
  cases ks with
  |i k0=>
   cases v with
   |i k1 n=>refine gg m t hd h (v:=.int k (k.wrap n)) rfl (λn A=>by simp[cX,bP]at A) (f z ?_);simp[convert,run_underlying (z8 hE h1),run_underlying (z8 hE h2),Conv.intToInt]
   |_=>simp at h
  |_=>simp at h
 |s=>
  have j:=lz hE h2;cases ks with
  |s=>
   cases v with
   |s s=>refine gg m t hd h (v:=.string s) ⟨rfl,z.2⟩ (λn A=>by simp[cX,bP]at A) (f z.1 ?_);simp[convert,run_underlying (lz hE h1),run_underlying j]
   |_=>simp at h
  |l el=>
   have y:=kY hE h1;have H:(∀e,v=e->((mG E e).bind λ(e,xs)=>(tv E e).bind λte=>bif bN e el&&u8s te.ks&& !te.agg then LV o (ah (xs.length<=4611686018427387904)) (.s (bytesOf xs))else .fail).val σ=ai ‹tF›)->hN P E σ a w c o (‹tF›).ws:=by
    intro h;obtain⟨⟨Y,xs⟩,K,h⟩:=bu (h v rfl);obtain⟨te,C,h⟩:=bu h;have C:=dZ C;obtain⟨B,Q⟩:=cZ h;rw[nV,aM]at B;have:=aX B.1;subst this;obtain⟨M,N⟩:=Na hE C B.2;have hp:plain te.ks=true:=by rw[M];rfl
    obtain⟨r1,r2,r3⟩:=A1 m z K C hp;exact FE m t hd Q S (v:=.string (bytesOf xs)) (λR=>⟨rfl,by unfold DS;rw[ie];exact cB R⟩) (uR rfl) (λ_=>f rfl (P8 hE y j N M r1 r2))
   cases v with
   |nl=>obtain⟨te,K,h⟩:=bu h;obtain⟨B,h⟩:=cZ h;obtain⟨M,N⟩:=Na hE (dZ K) B;exact gg m t hd h (v:=.string HY) ⟨rfl,bB _⟩ (λn A=>by simp[cX,bP]at A) (f z (run_convert_bytes_nil w src el y N 0 0 dst j))
   |_=>exact H (λ_ X=>by cases X;exact h)
  |_=>simp at h
 |_=>simp at h
def Hn(hE:eB P E)(S:Ok E σ w c)(r:fw E σ a w c)(hd:∀d,o.dst=ai d->d<a.tmps.size){t:aN}{x y:fB}(ho:o.op=.makeSlice t x y)(h:(mg E nm o).val σ=ai e)(N:e.cond=ao):hN P E σ a w c o e.ws:=by
 simp only[mg,ho]at h;obtain⟨⟨k1,n⟩,h1,h⟩:=bu h;obtain⟨⟨k2,m⟩,h2,h⟩:=bu h;obtain⟨ti,h3,h⟩:=bu h;have ex:=qq r h1;have ey:=qq r h2;have h3:=dZ h3;split at h
 ·rename_i el K R;obtain⟨te,h4,h⟩:=bu h;have h4:=dZ h4;obtain⟨h5,h⟩:=cZ h;obtain⟨u,h6,h⟩:=bu h;obtain⟨hf,B⟩:=kW h6;obtain rfl:=aL h;generalize (bif plain te.ks then nm else nm+999)=nm at hf B N⊢;simp only[aM,ba,b_]at N h5;obtain⟨⟨c0,rfl⟩,c1,c2⟩:=N;obtain⟨f,O⟩:=h5;have hu:=pD hE h3 K R;obtain⟨Y,hi,U,M,h7,hz⟩:=hE.info el te h4;obtain⟨z,V,X,_⟩:=hz f;have hr:=run_make (P:=P) w t el Y z hu hi V k1 k2 n n c0 (Int.le_refl _) (by
   have e1:((n.toNat*te.bytes:aN):az)<=140737488355328:=(by generalize n.toNat*te.bytes=q at c1⊢;omega)
   rw[M,Int.mul_comm];rw[V0,Int.toNat_of_nonneg c0]at e1;omega) (by omega)
  rw[X,U]at hr;refine CZ S r hd (p:=⟨aq,w.heap.size,0,n.toNat,n.toNat,te.ks.length⟩) (g:=Lf E te.ks) hf B (λc' s C _ _=> ?_) (λc' s C b H=> ?_) (λxs hx b H=>by cases hx) (λc' s _=> ?_) (λn A=>.inl (by simpa [cX,bP]using A)) (λb H=>heap_alloc_old w _ b H) (by simp) rfl rfl rfl (v:=.slice (ai ⟨w.heap.size,0,ay⟩) n.toNat n.toNat) (w':=w.alloc (.cells (madeCells (te.ks.map iM).toArray (n.toNat*te.ks.length)) el)) ?_
  ·refine⟨⟨te,h4,by rw[s],yQ f _⟩,?_,λ_=>wv (λi j=>(by rw[C];try rfl))⟩
   rw[s,C];refine⟨by simp[aR],λA=>(by cases A),λ_=>⟨_,og.alloc w _ el,bW _,(by show n.toNat<=2^63-1;omega),by rw[size_madeCells];simp,λi y j x hi hj=> ?_⟩⟩
   obtain⟨Q,k,hk,rfl⟩:=u9 hi hj;refine⟨iM k,?_,by rw[bm rfl];exact OC O f hk⟩
   rw[bV];exact lW Q hk
  ·rcases H with ⟨_,rfl⟩|⟨_,i,j,_,A,_⟩
   ·rw[s];exact bW _
   ·rw[C]at A;cases A
  ·show _=kX _;rw[s];rfl
  ·unfold execOp;rw[ho];exact iZ (by rw[ex,ey];exact hr)
 ·simp at h
end
end Go.FG
namespace Go.FG
def jt:(eH xs i j cs).length=xs.length:=by unfold eH;simp
def yG(k:xs[i]? =ai y)(d:aN):(eH xs i j cs)[d]? =if d=i then ai (kG y j cs)else xs[d]? :=by
 have f:=(aW.1 k).1;have hd:xs.getD i []=y:=by rw[dc,k];rfl
 unfold eH;rw[Qf,hd];by_cases h:d=i
 ·subst h;simp[f]
 ·rw[bk h,bk (λe=>h e.symm)]
def og.uniq(h1:og w b v1)(h2:og w b v2):v1=v2:=by obtain⟨t,fr,h1,_⟩:=h1;obtain⟨f,d,h2,_⟩:=h2;rw[h1]at h2;cases h2;rfl
def jq.pos(h:jq w p xs R)(hi:i<p.n):p.nil=aq/\∃d,og w p.blk d:=by
 have f:p.nil=false:=by
  cases k:p.nil with
  |false=>rfl
  |true=>have:=(h.nil k).1;subst this;have:=h.n;simp at this;omega
 obtain⟨d,j,_⟩:=h.mem f;exact⟨f,d,j⟩
def jq.ajN(h:jq w p xs R)(Q:og w p.blk m)(hs:∀y∈xs,y.length=p.sz)(hi:i<p.n)(hj:j+cs.length<=p.sz)(hl:vs.length=cs.length)
  (C:∀(q:aN) (x:CV),cs[q]? =ai x->∃u:bS,vs[q]? =ai u/\R' i (j+q) u x)
  (t:∀(O:aN) (y:aE CV) (M:aN) (x:CV) (u:bS),xs[O]? =ai y->y[M]? =ai x->(O≠i\/¬(j<=M/\M<j+cs.length))->R O M u x->R' O M u x):
  p.off+i*p.sz+j+vs.length<=m.size/\jq (w.setRow p.blk (ew m (p.off+i*p.sz+j) vs)) p (eH xs i j cs) R':=by
 have s:p.nil=false:=by
  cases N:p.nil with
  |false=>rfl
  |true=>have:=(h.nil N).1;subst this;have:=h.n;simp at this;omega
 obtain⟨h5,hb,X,S,A,hc⟩:=h.mem s;obtain rfl:=Q.uniq hb;have B:i<xs.length:=by rw[<-h.n];exact hi
 have Y:xs[i]? =ai xs[i]:=by simp[B]
 have h9:=hs xs[i] (bF B);have h1:(i+1)*p.sz<=p.cap*p.sz:=b9 _ (by omega);rw[dv]at h1;have d:p.off+i*p.sz+j+vs.length<=m.size:=by omega
 refine⟨d,⟨by rw[jt];exact h.n,λN=>(by rw[s]at N;cases N),λ_=> ?_⟩⟩
 refine⟨_,hb.setRow (eT d),X,S,by rw[eT d];exact A,λi' y z x k f=> ?_⟩
 rw[yG Y]at k;rw[gv d];by_cases r:i'=i
 ·subst r;rw[bm rfl]at k;cases k;rw[pO (by omega)]at f;by_cases hq:j<=z/\z<j+cs.length
  ·rw[bm hq]at f;rw[bm (by omega)];obtain⟨u,K,H⟩:=C (z-j) x f;refine⟨u,?_,?_⟩
   ·rw[<-K];congr 1;omega
   ·rwa[show j+(z-j)=z by omega]at H
  ·rw[bk hq]at f;obtain⟨u,K,H⟩:=hc _ _ _ _ Y f;exact⟨u,by rw[bk (by omega)];exact K,t _ _ _ _ _ Y f (.inr hq) H⟩
 ·rw[bk r]at k;obtain⟨u,K,H⟩:=hc _ _ _ _ k f;refine⟨u,?_,t _ _ _ _ _ k f (.inl r) H⟩
  have h7:z<p.sz:=by rw[<-hs y (aU k)];exact(aW.1 f).1
  rw[bk ?_];exact K;rcases Qj r with V|U
  ·have:(i'+1)*p.sz<=i*p.sz:=b9 _ V;rw[dv]at this;omega
  ·have:(i+1)*p.sz<=i'*p.sz:=b9 _ U;rw[dv]at this;omega
def jq.put(h:jq w p xs R)(m:og w p.blk d)(hs:∀y∈xs,y.length=p.sz)(hi:i<p.n)(r:j+cs.length<=p.sz)(hl:vs.length=cs.length)
  (f:∀(q:aN) (x:CV),cs[q]? =ai x->∃u:bS,vs[q]? =ai u/\R' i (j+q) u x)
  (k:∀(i:aN) (y:aE CV) (j:aN) (x:CV) (u:bS),xs[i]? =ai y->y[j]? =ai x->R i j u x->R' i j u x):
  p.off+i*p.sz+j+vs.length<=d.size/\jq (w.setRow p.blk (ew d (p.off+i*p.sz+j) vs)) p (eH xs i j cs) R':=
 h.ajN m hs hi r hl f (λt y z x u h1 h2 _ s=>k t y z x u h1 h2 s)
def ly(h:∀y∈xs,y.map CV.kd=ks)(i j:aN):gn xs i j↔i<xs.length/\∃e,ks[j]? =ai (.l e):=by
 constructor
 ·rintro ⟨y,x,f,d,hl⟩;refine⟨(aW.1 f).1,?_⟩
  cases x with
  |l e k=>exact⟨e,by rw[<-h y (aU f),bJ,d];rfl⟩
  |i=>simp[uQ]at hl
  |b=>simp[uQ]at hl
  |s=>simp[uQ]at hl
 ·rintro ⟨hi,e,hk⟩;have f:xs[i]? =ai xs[i]:=by simp[hi]
  have h1:=h xs[i] (bF hi);rw[<-h1,bJ]at hk;cases d:xs[i][j]? with
  |none=>rw[d]at hk;cases hk
  |some x=>
   rw[d]at hk;cases x with
   |l m k=>exact⟨_,_,f,d,rfl⟩
   |i=>cases hk
   |b=>cases hk
   |s=>cases hk
def Py(d:y.map CV.kd=ks)(f:cs.map CV.kd=(ks.drop j).take cs.length)(i:j+cs.length<=ks.length):(kG y j cs).map CV.kd=ks:=by
 have hl:y.length=ks.length:=by rw[<-d];simp
 apply Vq;intro q;rw[bJ,pO (by omega)];split
 ·rename_i h;have:(cs.map CV.kd)[q-j]? =((ks.drop j).take cs.length)[q-j]? :=by rw[f]
  rw[bJ]at this;rw[this,ej,bm (by omega),eh];congr 1;omega
 ·rw[<-d,bJ]
def yH(h:∀y∈xs,y.map CV.kd=ks)(d:cs.map CV.kd=(ks.drop j).take cs.length)(f:j+cs.length<=ks.length)(hi:i<xs.length):∀y∈eH xs i j cs,y.map CV.kd=ks:=by
 intro y k;obtain⟨q,hq⟩:=b5 k;rw[yG (y:=xs[i]) (by simp[hi])]at hq;split at hq
 ·cases hq;exact Py (h _ (bF hi)) d f
 ·exact h y (aU hq)
section
variable {P:dx} {E:gy} {σ:St} {a:Act} {w:cN} {c:gQ} {o:ia} {nm:aN} {e:tF}
def zU(hp:plain [k]=ao)(h:(IU ex k x).val σ=ai (d,ws))(f:eI E w c x u):d.kd=k/\Sc u d/\uQ d=aq/\ws=[]:=by
 cases k with
 |i k=>
  cases x with
  |i k' n=>
   replace h:(if k=k' then Rd.ret (CV.i k n,[])else .fail:Rd (CV×aE (aN×e9))).val σ=ai (d,ws):=h;split at h
   ·rename_i hk;subst hk;obtain⟨rfl,rfl⟩:=bX (aL h);exact⟨rfl,⟨f,trivial⟩,rfl,rfl⟩
   ·simp at h
  |_=>simp[IU]at h
 |b=>
  cases x with
  |b n=>obtain⟨rfl,rfl⟩:=bX (aL h);exact⟨rfl,⟨f,trivial⟩,rfl,rfl⟩
  |_=>simp[IU]at h
 |s=>
  cases x with
  |s n=>obtain⟨rfl,rfl⟩:=bX (aL h);exact⟨rfl,f,rfl,rfl⟩
  |_=>simp[IU]at h
 |l=>simp[plain]at hp
 |o=>simp[plain]at hp
def CM:∀{ks:aE Ck} {xs:aE AV} {cs:aE CV} {ws:aE (aN×e9)} (hp:plain ks=ao) (h:(zV ex ks xs).val σ=ai (cs,ws)),cs.map CV.kd=ks/\cs.length=xs.length/\ws=[]/\
  ∀(d:eN bS),gh E w c d xs->∀(q:aN) (x:CV),cs[q]? =ai x->d[q]? =ai (Qa x)/\uQ x=aq/\okC x:=by
 intro ks;induction ks with
 |nil=>
  intro xs cs ws hp h;cases xs with
  |nil=>obtain⟨rfl,rfl⟩:=bX (aL h);exact⟨rfl,rfl,rfl,λ_ _ q x hq=>by simp at hq⟩
  |cons=>simp[zV]at h
 |cons k ks ih=>
  intro xs cs ws hp h;cases xs with
  |nil=>simp[zV]at h
  |cons x xs=>
   obtain⟨⟨z,w1⟩,h1,h⟩:=bu h;obtain⟨⟨cr,R⟩,h2,h⟩:=bu h;obtain⟨rfl,rfl⟩:=bX (aL h);simp only[plain,iS,aM]at hp;have i:plain [k]=true:=by simp[plain,hp.1]
   have r:plain ks=true:=hp.2;obtain⟨M,N,O,Q⟩:=ih r h2;have A:=λu (f:eI E w c x u)=>zU i h1 f;have m:z.kd=k/\w1=[]:=by
    cases k<;>cases x<;>simp[IU,plain]at h1 i<;>first
     |(obtain⟨rfl,rfl⟩:=h1;exact⟨rfl,rfl⟩)
     |(split at h1<;>simp at h1;rename_i hk;subst hk;obtain⟨rfl,rfl⟩:=h1;exact⟨rfl,rfl⟩)
   refine⟨by simp[m.1,M],by simp[N],by rw[m.2,O];rfl,λd s q y hq=> ?_⟩
   cases q with
   |zero=>cases hq;obtain⟨u,f,B⟩:=s.2 0 x rfl;obtain⟨_,⟨rfl,K⟩,hl,_⟩:=A u B;exact⟨f,hl,K⟩
   |succ q=>
    have t:gh E w c (d.extract 1 d.size) xs:=by
     refine⟨by simp;have:=s.1;simp at this;omega,λj b H=> ?_⟩
     obtain⟨u,f,C⟩:=s.2 (j+1) b H;refine⟨u,?_,C⟩
     have:=(dD.1 f).1;rw[et,bm (by omega),i_];exact f
    obtain⟨r1,r2⟩:=Q _ t q y hq;refine⟨?_,r2⟩
    rw[et]at r1;split at r1
    ·rw[i_];exact r1
    ·cases r1
def YZ(d:s.run P w=.ok () w'):(do s;pure Next.skip:Sem Next).run P w=.ok .skip w':=by simp only[cx,d,bI,c8]
def Fo:∀{d:aE AV} {f q j:aN},Ae f d=ai (q,j)->f<=q/\d[q-f]? =ai (.own j)/\∀(k m:aN),d[k]? =ai (.own m)->k=q-f:=by
 have i:∀{d:aE AV},Jj d=ao->∀(k m:aN),d[k]? ≠ai (.own m):=by
  intro d;induction d with
  |nil=>intro h k m h;simp at h
  |cons y d ih=>
   intro h k m hk;cases y with
   |own n=>cases h
   |_=>
    cases k with
    |zero=>cases hk
    |succ k=>exact ih (by simpa [Jj]using h) k m hk
 intro d;induction d with
 |nil=>intro f q j h;cases h
 |cons y d ih=>
  intro f q j h;have step:Ae (f+1) d=ai (q,j)->(∀m,y≠ .own m)->f<=q/\(y::d)[q-f]? =ai (.own j)/\∀(k m:aN),(y::d)[k]? =ai (.own m)->k=q-f:=by
   intro h r;obtain⟨h1,h2,h3⟩:=ih h;have e:q-f=(q-(f+1))+1:=by omega
   refine⟨by omega,by rw[e,dQ];exact h2,λk m hk=> ?_⟩
   cases k with
   |zero=>cases hk;exact cO rfl (r m)
   |succ k=>have:=h3 k m hk;omega
  cases y with
  |own n=>
   unfold Ae at h;cases h1:Jj d with
   |false=>rw[h1]at h;cases h
   |true=>
    rw[h1]at h;cases h;refine⟨bW _,by rw[qe];rfl,λk m hk=> ?_⟩
    cases k with
    |zero=>omega
    |succ k=>exact cO hk (i h1 k m)
  |_=>exact step (by simpa [Ae]using h) (λm h=>by cases h)
def Wq:∀{ks:aE Ck} {d:aE AV} {cs:aE CV},Ef f j zs ks d=ai cs->cs.map CV.kd=ks/\cs.length=d.length/\
  ∀(q:aN) (x:CV),cs[q]? =ai x->∃y,d[q]? =ai y/\((uQ x=aq/\∀u,eI E w c y u->Sc u x)\/(x=.l f zs/\y=.own j)):=by
 intro ks;induction ks with
 |nil=>
  intro d cs h;cases d with
  |nil=>cases h;exact⟨rfl,rfl,λq x h=>by simp at h⟩
  |cons=>cases h
 |cons k ks ih=>
  intro d cs h
  have go:∀{y:AV} {r:aE AV} {x:CV},d=y::r->(Ef f j zs ks r).map (x:: ·)=ai cs->x.kd=k->((uQ x=aq/\∀u,eI E w c y u->Sc u x)\/(x=.l f zs/\y=.own j))->
    cs.map CV.kd=k::ks/\cs.length=d.length/\∀(q:aN) (x:CV),cs[q]? =ai x->∃y,d[q]? =ai y/\((uQ x=aq/\∀u,eI E w c y u->Sc u x)\/(x=.l f zs/\y=.own j)):=by
   intro y r x C hm hk B
   subst C
   cases A:Ef f j zs ks r with
   |none=>rw[A]at hm;cases hm
   |some cr=>
    rw[A]at hm;cases hm;obtain⟨H,K,M⟩:=ih A;refine⟨by simp[hk,H],by simp[K],λq z hq=> ?_⟩
    cases q with
    |zero=>cases hq;exact⟨y,rfl,B⟩
    |succ q=>exact M q z hq
  cases d with
  |nil=>cases k<;>cases h
  |cons y r=>
   cases k with
   |i k=>
    cases y with
    |i k' n=>
     unfold Ef at h;split at h
     ·rename_i hk;subst hk;exact go rfl h rfl (.inl ⟨rfl,λu t=>⟨t,trivial⟩⟩)
     ·cases h
    |_=>cases h
   |b=>
    cases y with
    |b n=>exact go rfl h rfl (.inl ⟨rfl,λu t=>⟨t,trivial⟩⟩)
    |_=>cases h
   |s=>
    cases y with
    |s n=>exact go rfl h rfl (.inl ⟨rfl,λu t=>t⟩)
    |_=>cases h
   |l e=>
    cases y with
    |own n=>
     unfold Ef at h;cases m:(bN e f&&bN n j)with
     |false=>rw[m]at h;cases h
     |true=>rw[m,au]at h;simp only[aM]at m;have:=aX m.1;subst this;have:=aX m.2;subst this;exact go rfl h rfl (.inr ⟨rfl,rfl⟩)
    |_=>cases h
   |o=>cases y<;>cases h
def Pf(z:Ok E σ w c)(y2:fw E σ a w c)(hd:∀d,o.dst=ai d->d<a.tmps.size)(hF:z7 n=ao)(hi:i<(c.P n).n)(h:(HK E n i j ys).val σ=ai ws)(xj:gh E w c X ys)(y8:0<ys.length)
  (xe:∀(x6:eN bS),og w (c.P n).blk x6->(c.P n).off+i*(c.P n).sz+j+X.size<=x6.size->(execOp a.eval o).run P w=.ok .skip (w.setRow (c.P n).blk (ew x6 ((c.P n).off+i*(c.P n).sz+j) X.toList))):hN P E σ a w c o (ws++dw o .un):=by
 unfold HK at h;obtain⟨ob,xu,h⟩:=bu h;have hg:=dF xu;split at h
 ·rename_i el xs;obtain⟨te,h6,h⟩:=bu h;have h6:=dZ h6;split at h
  ·rename_i q t x2;cases hc:bN n t with
   |true=>rw[hc]at h;simp at h
   |false=>
    rw[hc,ax]at h;have xb:n≠t:=λe=>by subst e;rw[Nat.beq_refl]at hc;cases hc
    obtain⟨ya,xk,h⟩:=bu h;have O:=dF xk;split at h
    ·rename_i e2 zs;obtain⟨t2,h7,h⟩:=bu h;have h7:=dZ h7;obtain⟨h8,h⟩:=cZ h;simp only[aM]at h8;obtain⟨xc,xa⟩:=h8;have xa:=b8 xa;split at h
     ·rename_i cs xr;obtain rfl:=aL h;obtain⟨m1,m2,m3⟩:=Wq (E:=E) (w:=w) (c:=c) xr;obtain⟨_,_,hu⟩:=Fo x2;rw[H2]at hu;obtain⟨⟨t1,q1,xd,kJ⟩,x7,x8⟩:=z.obj n _ hg;obtain rfl:te=t1:=aL (h6.symm.trans q1);obtain⟨⟨t3,q3,xp,h5⟩,xi,_⟩:=z.obj t _ O;obtain rfl:t2=t3:=aL (h7.symm.trans q3);have xm:j+cs.length<=te.ks.length:=by rw[m2];exact xa
      have xw:cs.map CV.kd=(te.ks.drop j).take cs.length:=by rw[m1,m2]
      have xv:i<xs.length:=by rw[<-x7.n];exact hi
      obtain⟨V,x5,hb⟩:=x7.pos hi;have xl:=ly kJ;have x3:=yH kJ xw xm xv;have x9:=ly x3;have same:∀f r,gn (eH xs i j cs) f r->gn xs f r:=λf r H=>(xl f r).2 (by have:=(x9 f r).1 H;rwa[jt]at this);have y6:∀y∈xs,y.length=(c.P n).sz:=λy hy=>by rw[xd,<-kJ y hy];simp
      let w':=w.setRow (c.P n).blk (ew x5 ((c.P n).off+i*(c.P n).sz+j) X.toList);have Y:∀b,b≠(c.P n).blk->w'.heap[b]? =w.heap[b]? :=λb hb=>setRow_other w _ b _ hb;have xq:∀i j,¬gn zs i j:=by rintro i j ⟨y,x,h1,h2,h3⟩;rw[im xc (h5 y (aU h1)) h2]at h3;cases h3
      have N:(c.P t).nil=aq->fN c t (.row e2 ao zs) (c.P t).blk:=λA=>.inl ⟨A,rfl⟩;have h9:fN c n (.row el ao xs) (c.P n).blk:=.inl ⟨V,rfl⟩;have x4:(c.P t).nil=aq->(c.P t).blk≠(c.P n).blk:=λA R=>xb (z.sep n _ t _ _ hg O h9 (by rw[<-R];exact N A));let c':gQ:=⟨c.P,λm f r=>if m=n/\f=i/\r=j+q then c.P t else c.G m f r,c.K⟩
      have ha:c'.G n i (j+q)=c.P t:=bm ⟨rfl,rfl,rfl⟩;have xf:∀f r,¬(f=i/\r=j+q)->c'.G n f r=c.G n f r:=λf r h=>bk (λe=>h ⟨e.2.1,e.2.2⟩);have xg:∀m,m≠n->c'.G m=c.G m:=λm hm=>by funext f r;exact bk (λe=>hm e.1)
      have M:∀f r,gn (eH xs i j cs) f r->(c'.G n f r).nil=aq->(f=i/\r=j+q/\(c.P t).nil=aq/\(c'.G n f r).blk=(c.P t).blk)\/(¬(f=i/\r=j+q)/\(c.G n f r).nil=aq/\(c'.G n f r).blk=(c.G n f r).blk/\fN c n (.row el ao xs) (c.G n f r).blk):=by
       intro f r hh A;by_cases R:f=i/\r=j+q
       ·obtain⟨rfl,rfl⟩:=R;rw[ha]at A⊢;exact .inl ⟨rfl,rfl,A,rfl⟩
       ·rw[xf f r R]at A⊢;exact .inr ⟨R,A,rfl,.inr ⟨rfl,f,r,same f r hh,A,rfl⟩⟩
      obtain⟨hv,xh⟩:=jq.ajN (R':=λB C u1 x1=>if ao=ao then XC E w' (c'.G n) B C u1 x1 else Holds E w' c'.K u1 x1) x7 hb y6 (i:=i) (j:=j) (cs:=cs) (vs:=X.toList) hi (by rw[xd];exact xm) (by rw[dM,xj.1,m2])
       (λk x hk=>by
        obtain⟨y,hy,y5⟩:=m3 k x hk;obtain⟨u,y3,ht⟩:=xj.2 k y hy;refine⟨u,by rw[da];exact y3,?_⟩
        rw[bm rfl];rcases y5 with ⟨hl,y0⟩|⟨rfl,rfl⟩
        ·exact uZ hl (y0 u ht)
        ·have xx:k=q:=hu k t hy;subst xx;have ht:u=kX (c.P t):=ht;refine⟨by rw[ha];exact ht,t2,h7,xc,by rw[ha];exact xp,h5,?_⟩
         rw[ha];exact xi.frame (λA=>Y _ (x4 A)) (λB C y1 x1 u1 g1 g2 hr=>by rw[bm rfl]at hr;exact u7 hr (im xc (h5 y1 (aU g1)) g2)))
       (λB y1 C x1 u1 h1 h2 xo hr=>by
        rw[bm rfl]at hr⊢;have hj:XC E w' (c.G n) B C u1 x1:=hr.frame (λhl A=>Y _ ((x8 rfl).out B C ⟨y1,x1,h1,h2,hl⟩ A V));have xn:¬(B=i/\C=j+q):=by
         rintro ⟨rfl,rfl⟩;have hq:q<cs.length:=by obtain⟨_,hq,_⟩:=Fo x2;rw[H2]at hq;rw[m2];exact(aW.1 hq).1
         rcases xo with h|h
         ·exact h rfl
         ·exact h ⟨by omega,by omega⟩
        cases x1 with
        |l ee zz=>obtain⟨r1,r2⟩:=hj;unfold XC;rw[xf B C xn];exact⟨r1,r2⟩
        |i=>exact hj
        |b=>exact hj
        |s=>exact hj)
      have hr:=xe x5 hb (by rw[dM]at hv;exact hv);let σ1:=p_ (p_ σ (dj n) (.o (.row el ao (eH xs i j cs)))) (dj t) (.o .dead);obtain⟨s1,s2,s3⟩:=sN σ1 o .un;have key:∀m,wr σ1 (dw o .un) (dj m)=if m=t then .o .dead else if m=n then .o (.row el ao (eH xs i j cs))else σ (dj m):=λm=>by rw[s3];show(p_ (p_ σ (dj n) (.o (.row el ao (eH xs i j cs)))) (dj t) (.o .dead)) (dj m)=_;rw[qv,qv]
      have x0:∀m,σ (dj m)≠ .jW->wr σ1 (dw o .un) (dj m)≠ .jW:=λm hm=>by rw[key];split;simp;split;simp;exact hm
      have hA:rN σ c c':=λm _=>⟨rfl,λhf=>xg m (λe=>by subst e;rw[hF]at hf;cases hf)⟩
      have y9:∀m,m=n\/m=t->∃ob,σ (dj m)=.o ob:=by rintro m (rfl|rfl);exact⟨_,hg⟩;exact⟨_,O⟩
      have S:∀m x,(m=n\/m=t)->wr σ1 (dw o .un) (dj m)=.o x->(m=t/\x=.dead)\/(m=n/\x=.row el ao (eH xs i j cs)):=by
       intro m x hm H;rw[key]at H;by_cases U:m=t
       ·rw[bm U]at H;cases H;exact .inl ⟨U,rfl⟩
       ·rw[bk U,bm (hm.resolve_right U)]at H;cases H;exact .inr ⟨hm.resolve_right U,rfl⟩
      have hh:=z.xU (σ':=wr σ1 (dw o .un)) (w':=w') (c':=c') (λm=>m=n\/m=t) (λm hm=>by rw[key,bk (λe=>hm (.inr e)),bk (λe=>hm (.inl e))]) x0 hA (λm hm _=>xg m (λe=>hm (.inl e)))
       (λb _ xz=>Y b (λe=>xz ⟨n,_,.inl rfl,hg,by rw[e];exact h9⟩)) (by simp[w',lJ]) (λ_ h=>h) (λ_ h=>.inl h) (λb hb=>jV (z.lt b hb) (by simp[w',lJ]))
       (λm x hm H=>by
        rcases S m x hm H with ⟨rfl,rfl⟩|⟨rfl,rfl⟩
        ·trivial
        ·refine⟨⟨te,q1,xd,x3⟩,xh,λ_=>⟨λB C hh A _ R=> ?_,λB C i2 j2 h1 h2 n1 y7 R=> ?_⟩⟩
         ·rcases M B C hh A with ⟨_,_,g1,g2⟩|⟨_,g1,g2,g3⟩
          ·exact x4 g1 (g2.symm.trans R)
          ·exact(x8 rfl).out B C (same B C hh) g1 V (g2.symm.trans R)
         ·rcases M B C h1 n1 with ⟨a1,a2,a3,a4⟩|⟨a1,a2,a3,a4⟩<;>rcases M i2 j2 h2 y7 with ⟨b1,b2,b3,b4⟩|⟨b1,b2,b3,b4⟩
          ·exact⟨a1.trans b1.symm,a2.trans b2.symm⟩
          ·exfalso;exact xb (z.sep m _ t _ _ hg O b4 (by rw[<-b3,<-R,a4];exact N a3))
          ·exfalso;exact xb (z.sep m _ t _ _ hg O a4 (by rw[<-a3,R,b4];exact N b3))
          ·exact(x8 rfl).one B C i2 j2 (same B C h1) (same i2 j2 h2) a2 b2 (a3.symm.trans (R.trans b3)))
       (λm x b hm H hf=>by
        rcases S m x hm H with ⟨rfl,rfl⟩|⟨rfl,rfl⟩
        ·exact hf.elim
        ·have hz:kh (λk=>k=m\/k=t) σ c b:=by
          rcases hf with ⟨_,rfl⟩|⟨_,B,C,hh,A,rfl⟩
          ·exact⟨m,_,.inl rfl,hg,h9⟩
          ·rcases M B C hh A with ⟨_,_,g1,g2⟩|⟨_,g1,g2,g3⟩
           ·rw[g2];exact⟨t,_,.inr rfl,O,N g1⟩
           ·rw[g2];exact⟨m,_,.inl rfl,hg,g3⟩
         exact⟨.inl hz,z.Hk hz.own⟩)
       (λm x m' x' b hm xy H y4 hf xt=>by
        rcases S m x hm H with ⟨rfl,rfl⟩|⟨rfl,rfl⟩
        ·exact hf.elim
        ·rcases S m' x' xy y4 with ⟨rfl,rfl⟩|⟨rfl,rfl⟩
         ·exact xt.elim
         ·rfl)
       (λm bs hm H=>by rcases S m _ hm H with ⟨_,h⟩|⟨_,h⟩<;>cases h) rfl rfl rfl
      intro K Q hK;refine DJ hr (hK undef w' c' hh.1 ?_ hh.2 hA);refine y2.xU z hh.2 hA x0 o undef (λk hk=>by rw[s1 k hk];show slot (p_ (p_ σ (dj n) (.o (.row el ao (eH xs i j cs)))) (dj t) (.o .dead)) k=_;rw[jv,jv]) (λd ho=>⟨hd d ho,?_,?_⟩)
      ·rw[s2 d ho];trivial
      ·rw[s2 d ho];intro k hk;simp[cX]at hk
     ·simp at h
    ·simp at h
  ·simp at h
 ·simp at h
def TV(hE:eB P E)(Q:Ok E σ w c)(x2:fw E σ a w c)(hd:∀d,o.dst=ai d->d<a.tmps.size)(ho:o.op=.store t p x)(h:(mg E nm o).val σ=ai e):hN P E σ a w c o e.ws:=by
 simp only[mg,ho]at h;obtain⟨ti,h1,h⟩:=bu h;obtain⟨pv,h2,h⟩:=bu h;obtain⟨xv,h3,h⟩:=bu h;have h1:=dZ h1;obtain⟨ep,kp⟩:=i7 x2 h2;obtain⟨ex,kx⟩:=mr x2 h3;cases xv with
 |v g ys=>
  obtain⟨h4,h⟩:=cZ h;have h4:=aX h4;obtain⟨ws,f,h⟩:=bu h;obtain rfl:=aL h;have O:=qG.cells ex;have xo:(a.eval x).cells.size=ti.ks.length:=by rw[O.1,h4]
  have ky:∀b∈ys,jm σ b:=λb m n N=>kx n (bL.2 ⟨b,m,N⟩);obtain⟨_,_,_,_,x0,_⟩:=hE.info t ti h1;have hv:∀{b of:aN} {U:eN bS},a.eval p=.pointer (ai (ad b of))->og w b U->of+(a.eval x).cells.size<=U.size->(execOp a.eval o).run P w=.ok .skip (w.setRow b (ew U of (a.eval x).cells.toList)):=by intro b of U hp m hf;unfold execOp;rw[ho];refine YZ ?_;rw[hp];exact JD w hE h1 xo m hf O.one
  have xe:∀(b:aN) (new:eN bS),Own σ c b->∀b',c.K b'->(w.setRow b new).heap[b']? =w.heap[b']? :=by intro b new m b' hk;exact setRow_other w b b' new (λe=>by subst e;exact Q.Hk m hk)
  have f:(HL E pv ys).val σ=ai ws\/∃n i j,pv=.rp n i j/\z7 n=ao/\(HK E n i j ys).val σ=ai ws:=by
   cases pv with
   |rp n i j=>
    unfold U1 at f;simp only at f;cases hF:z7 n with
    |true=>rw[hF,au]at f;exact .inr ⟨n,i,j,rfl,hF,f⟩
    |false=>rw[hF,ax]at f;exact .inl f
   |_=>exact .inl f
  rcases f with f|⟨n,i,j,rfl,hF,f⟩
  rotate_left
  ·obtain⟨xq,x7⟩:=ep;exact Pf Q x2 hd hF xq f O (by rw[<-h4]at x0;exact x0) (λU m hf=>hv x7 m hf)
  cases pv with
  |bp n j=>
   obtain⟨ob,hg,f⟩:=bu f;have hg:=dF hg;cases ob with
   |box xs=>
    obtain⟨h6,f⟩:=cZ f;have h6:=b8 h6;obtain rfl:=aL f;obtain⟨U,m,hj,xp⟩:=Q.obj n _ hg;have hc:Own σ c (c.P n).blk:=⟨n,_,hg,rfl⟩
    have A:j+(a.eval x).cells.size<=U.size:=by rw[O.1,hj];exact h6
    have x9:j+(a.eval x).cells.toList.length<=U.size:=by rw[dM];exact A
    have xa:=xe (c.P n).blk (ew U j (a.eval x).cells.toList) hc;refine uf Q x2 hd hg (ob':=.box (kG xs j ys)) ?_ (λb m=>m) (λzs hz b m=> ?_) (s:=.un) trivial (λn N=>by simp[cX]at N) (λb m x6=>setRow_other w _ b _ (λe=>x6 e)) (by simp[lJ]) rfl rfl rfl (.inr ⟨hv ep m A,rfl⟩)
    ·have:=(gh.put (E:=E) (w:=w) (c:=c) ⟨hj,xp⟩ O h6)
     refine⟨_,m.setRow (eT x9),this.1,λq b hq=> ?_⟩
     obtain⟨u,hu,xr⟩:=this.2 q b hq;exact⟨u,hu,xr.frame xa (λ_ h=>h) (λ_ _=>⟨rfl,rfl⟩)⟩
    ·cases hz;rcases C4 m with m|m
     ·exact Q.kn n xs hg b m
     ·exact ky b m
   |_=>simp at f
  |rp n i j=>
   obtain⟨ob,hg,f⟩:=bu f;have hg:=dF hg;cases ob with
   |row el x3 xs=>
    obtain⟨te,h6,f⟩:=bu f;have h6:=dZ h6;obtain⟨h7,f⟩:=cZ f;obtain⟨⟨cs,w2⟩,h8,f⟩:=bu f;obtain rfl:=aL f;obtain⟨m1,m2,_,m3⟩:=CM (E:=E) (w:=w) (c:=c) h7 h8;obtain⟨⟨t2,q1,hj,kJ⟩,X,V⟩:=Q.obj n _ hg;obtain rfl:te=t2:=aL (h6.symm.trans q1);obtain⟨hi,x7⟩:=ep;have xg:cs.length=((te.ks.drop j).take ys.length).length:=by rw[<-m1];simp
    have x5:j+cs.length<=te.ks.length:=by
     rw[dG,g_]at xg;have:0<cs.length:=by rw[m2,h4];exact x0
     omega
    have xf:cs.map CV.kd=(te.ks.drop j).take cs.length:=by rw[m1,m2]
    have x8:i<xs.length:=by rw[<-X.n];exact hi
    have C:(c.P n).nil=false:=by
     cases N:(c.P n).nil with
     |false=>rfl
     |true=>have:=(X.nil N).1;subst this;simp at x8
    have hc:Own σ c (c.P n).blk:=⟨n,_,hg,.inl ⟨C,rfl⟩⟩
    have xa:=λnew=>xe (c.P n).blk new hc;have x4:=ly kJ;have he:=yH kJ xf x5 x8;have ht:=ly he;have same:∀i' j',gn (eH xs i j cs) i' j'->gn xs i' j':=λi' j' hx=>(x4 i' j').2 (by have:=(ht i' j').1 hx;rwa[jt]at this);obtain⟨_,S,m⟩:=X.pos hi;have xn:∀y∈xs,y.length=(c.P n).sz:=λy hy=>by rw[hj,<-kJ y hy];simp
    have xj:=xa (ew S ((c.P n).off+i*(c.P n).sz+j) (a.eval x).cells.toList);have hw:∀b,c.K b->(w.setRow (c.P n).blk (ew S ((c.P n).off+i*(c.P n).sz+j) (a.eval x).cells.toList)).heap[b]? =w.heap[b]? :=xj;generalize r:w.setRow (c.P n).blk (ew S ((c.P n).off+i*(c.P n).sz+j) (a.eval x).cells.toList)=w' at hw;have M:∀b,b≠(c.P n).blk->w'.heap[b]? =w.heap[b]? :=λb m=>by rw[<-r];exact setRow_other w _ b _ m
    obtain⟨A,Y⟩:=jq.put (R':=λB z u1 x1=>if x3=ao then XC E w' (c.G n) B z u1 x1 else Holds E w' c.K u1 x1) X m xn (i:=i) (j:=j) (cs:=cs) (vs:=(a.eval x).cells.toList) hi (by rw[hj];exact x5) (by rw[dM,O.1,m2])
     (λq y hq=>by
      obtain⟨r1,r2,r3⟩:=m3 _ O q y hq;refine⟨Qa y,by rw[da];exact r1,?_⟩
      split
      ·exact uZ r2 ⟨rfl,r3⟩
      ·exact k7 r2 ⟨rfl,r3⟩)
     (λB y1 z x1 u1 h1 h2 hr=>by
      cases x3 with
      |true=>rw[bm rfl]at hr⊢;exact hr.frame (λhl N=>M _ ((V rfl).out B z ⟨y1,x1,h1,h2,hl⟩ N C))
      |false=>rw[bk (by simp)]at hr⊢;exact hr.frame hw (λ_ h=>h))
    rw[r]at Y;refine uf Q x2 hd hg (ob':=.row el x3 (eH xs i j cs)) ?_ ?_ (λzs hz=>by cases hz) (s:=.un) trivial (λn N=>by simp[cX]at N) (w':=w') (λb m x6=>M b (λe=>x6 (.inl ⟨C,e⟩))) (by rw[<-r];simp[lJ]) (by rw[<-r];rfl) (by rw[<-r];rfl) (by rw[<-r];rfl) (.inr ⟨?_,rfl⟩)
    ·exact⟨⟨te,q1,hj,he⟩,Y,λhx=>⟨λB z hh=>(V hx).out B z (same B z hh),λB z i2 R h1 h2=>(V hx).one B z i2 R (same B z h1) (same i2 R h2)⟩⟩
    ·rintro b (m|⟨hx,B,z,hh,N⟩)
     ·exact .inl m
     ·exact .inr ⟨hx,B,z,same B z hh,N⟩
    ·rw[<-r];refine hv x7 m ?_;rw[dM]at A;exact A
   |_=>simp at f
  |ip n i j i2 R=>
   obtain⟨ob,hg,f⟩:=bu f;have hg:=dF hg;cases ob with
   |row el x3 xs=>
    cases x3 with
    |false=>simp at f
    |true=>
    obtain⟨te,h6,f⟩:=bu f;have h6:=dZ h6;split at f
    ·rename_i e2 xd;obtain⟨t2,h7,f⟩:=bu f;have h7:=dZ h7;obtain⟨h8,f⟩:=cZ f;obtain⟨⟨cs,w2⟩,h9,f⟩:=bu f;obtain rfl:=aL f;have xh:plain ((t2.ks.drop R).take ys.length)=true:=bE.2 (λk hk=>bE.1 h8 k (lL (iK hk)));obtain⟨m1,m2,_,m3⟩:=CM (E:=E) (w:=w) (c:=c) xh h9;obtain⟨⟨hi,xb,x7⟩,_⟩:=ep;obtain⟨⟨t1,q1,hj,kJ⟩,X,V⟩:=Q.obj n _ hg;obtain rfl:te=t1:=aL (h6.symm.trans q1);obtain⟨zs,y,t3,r1,r2,r3,r4,r5,r6,r7,_⟩:=B7 Q hg h6 xd hi;obtain rfl:t2=t3:=aL (h7.symm.trans r3);rw[fF r1 r2];simp only[jd];have xg:cs.length=((t2.ks.drop R).take ys.length).length:=by rw[<-m1];simp
     have x5:R+cs.length<=t2.ks.length:=by
      rw[dG,g_]at xg;have:0<cs.length:=by rw[m2,h4];exact x0
      omega
     have xf:cs.map CV.kd=(t2.ks.drop R).take cs.length:=by rw[m1,m2]
     have xk:i2<zs.length:=by rw[<-r7.n];exact xb
     have x8:i<xs.length:=(aW.1 r1).1;obtain⟨H,S,m⟩:=r7.pos xb;obtain⟨C,pv,xw⟩:=X.pos hi;have ha:gn xs i j:=⟨y,_,r1,r2,rfl⟩
     have hc:Own σ c (c.G n i j).blk:=⟨n,_,hg,.inr ⟨rfl,i,j,ha,H,rfl⟩⟩
     have hw:=xe (c.G n i j).blk (ew S ((c.G n i j).off+i2*(c.G n i j).sz+R) (a.eval x).cells.toList) hc;have xt:∀y∈zs,y.length=(c.G n i j).sz:=λy hy=>by rw[r5,<-r6 y hy];simp
     obtain⟨A,Y⟩:=jq.put (R':=λ_ _ u1 x1=>Sc u1 x1) r7 m xt (i:=i2) (j:=R) (cs:=cs) (vs:=(a.eval x).cells.toList) xb (by rw[r5];exact x5) (by rw[dM,O.1,m2])
      (λq y hq=>⟨Qa y,by rw[da];exact(m3 _ O q y hq).1,rfl,(m3 _ O q y hq).2.2⟩) (λ_ _ _ _ _ _ _ hr=>hr)
     generalize r:w.setRow (c.G n i j).blk (ew S ((c.G n i j).off+i2*(c.G n i j).sz+R) (a.eval x).cells.toList)=w' at hw Y;have M:∀b,b≠(c.G n i j).blk->w'.heap[b]? =w.heap[b]? :=λb m=>by rw[<-r];exact setRow_other w _ b _ m
     have xu:j<te.ks.length:=(aW.1 xd).1;have xl:[CV.l e2 (eH zs i2 R cs)].map CV.kd=(te.ks.drop j).take [CV.l e2 (eH zs i2 R cs)].length:=by rw[bz,List.take_one,List.head?_drop,xd];rfl
     have he:=yH (i:=i) (j:=j) (cs:=[CV.l e2 (eH zs i2 R cs)]) kJ xl (by simp;omega) x8;have x4:=ly kJ;have ht:=ly he;have same:∀i' j',gn (eH xs i j [CV.l e2 (eH zs i2 R cs)]) i' j'->gn xs i' j':=λi' j' hx=>(x4 i' j').2 (by have:=(ht i' j').1 hx;rwa[jt]at this);have xm:(c.P n).blk≠(c.G n i j).blk:=λe=>(V rfl).out i j ha H C e.symm;have xi:jq w' (c.P n) (eH xs i j [CV.l e2 (eH zs i2 R cs)]) (λB z u1 x1=>if ao=ao then XC E w' (c.G n) B z u1 x1 else Holds E w' c.K u1 x1):=by
      obtain⟨vs,k1,k2,k3,k4,k5⟩:=X.mem C;refine⟨by rw[jt];exact X.n,λN=>(by rw[C]at N;cases N),λ_=>⟨vs,k1.frame (M _ xm),k2,k3,k4,λB y1 z x1 g1 g2=> ?_⟩⟩
      rw[yG r1]at g1;simp only[if_true]at k5⊢;by_cases xc:B=i
      ·subst xc;rw[bm rfl]at g1;cases g1;have xn:y.length=te.ks.length:=by rw[<-kJ y (aU r1)];simp
       rw[pO (by simp;omega)]at g2;by_cases hq:j<=z/\z<j+[CV.l e2 (eH zs i2 R cs)].length
       ·rw[bm hq]at g2;have:z=j:=by simp at hq;omega
        subst this;simp at g2;subst g2;obtain⟨u,hu,hr⟩:=k5 _ _ _ _ r1 r2;refine⟨u,hu,hr.1,t2,r3,r4,r5,yH r6 xf x5 xk,Y⟩
       ·rw[bk hq]at g2;obtain⟨u,hu,hr⟩:=k5 _ _ _ _ r1 g2;refine⟨u,hu,hr.frame (λhl N=>M _ (λe=> ?_))⟩
        have:=((V rfl).one _ _ _ _ ⟨y,x1,r1,g2,hl⟩ ha N H e).2;simp at hq;omega
      ·rw[bk xc]at g1;obtain⟨u,hu,hr⟩:=k5 _ _ _ _ g1 g2;exact⟨u,hu,hr.frame (λhl N=>M _ (λe=>xc ((V rfl).one _ _ _ _ ⟨y1,x1,g1,g2,hl⟩ ha N H e).1))⟩
     refine uf Q x2 hd hg (ob':=.row el ao (eH xs i j [CV.l e2 (eH zs i2 R cs)])) ?_ ?_ (λzs hz=>by cases hz) (s:=.un) trivial (λn N=>by simp[cX]at N) (w':=w') (λb m x6=>M b (λe=>x6 (.inr ⟨rfl,i,j,ha,H,e⟩))) (by rw[<-r];simp[lJ]) (by rw[<-r];rfl) (by rw[<-r];rfl) (by rw[<-r];rfl) (.inr ⟨?_,rfl⟩)
     ·exact⟨⟨te,q1,hj,he⟩,xi,λhx=>⟨λB z hh=>(V hx).out B z (same B z hh),λB z i2 R h1 h2=>(V hx).one B z i2 R (same B z h1) (same i2 R h2)⟩⟩
     ·rintro b (m|⟨hx,B,z,hh,N⟩)
      ·exact .inl m
      ·exact .inr ⟨hx,B,z,same B z hh,N⟩
     ·rw[<-r];refine hv x7 m ?_;rw[dM]at A;exact A
    ·simp at f
   |_=>simp at f
  |_=>simp[HL]at f
 |kz=>simp at h
 |un=>simp at h
end
end Go.FG
namespace Go.FG
def PW(h:plain ks=ao):Li ks=true:=by refine bE.2 (λk hk=> ?_);have:=bE.1 h k hk;cases k<;>first|rfl|exact this
def uw(h:∀y∈xs,y.map CV.kd=ks)(hp:plain ks=ao):¬gn xs i j:=by intro d;obtain⟨_,e,hk⟩:=(ly h i j).1 d;have:=bE.1 hp _ (aU hk);cases this
def IJ{xs z:Row}{lo hi:aN}(h1:lo<=hi)(h2:hi<=xs.length)(d:z.length=hi-lo)(i:aN):(xs.take lo++z++xs.drop hi)[i]? =if lo<=i/\i<hi then z[i-lo]? else xs[i]? :=by
 by_cases a:i<lo
 ·rw[bk (by omega),cg,dz (by simp;omega),ej,bm a]
 ·by_cases b:i<hi
  ·rw[bm ⟨by omega,b⟩,cg,de (by simp;omega),dz (by simp;omega)];congr 1;simp;omega
  ·rw[bk (by omega),cg,de (by simp;omega),de (by simp;omega),eh];congr 1;simp;omega
section
variable {P:dx} {E:gy} {σ:St} {a:Act} {w:cN} {c:gQ} {o:ia} {nm:aN} {e:tF}
def P9(m:P.underlying t=ai (.slice el))(hi:P.info? el=ai inf)(r:inf.zero=ai z)(s:0<n)(j:og w b cur)(k:of+n*z.cells.size<=cur.size)(h1:∀u∈z.cells.toList,u.oneCell'=ao):
  (o5 #[t] ty #[.slice (ai (ad b of)) n cp]).run P w=.ok (.tuple #[]) (w.setRow b (ew cur of (madeCells z.cells (n*z.cells.size)).toList)):=by
 have d:=nS (P:=P) w (o:=of) (vs:=(madeCells z.cells (n*z.cells.size)).toList) j (by simpa [size_madeCells]using k) (λv f=>by
  unfold madeCells at f;simp only[A5,cU]at f;obtain⟨q,hq,rfl⟩:=f;have hq:q<n*z.cells.size:=by simpa using hq
  have hp:0<z.cells.size:=by rcases DP z.cells.size with h|h;(rw[h]at hq;simp at hq);exact h
  have:q%z.cells.size<z.cells.size:=F0 _ hp;rw[getElem!_pos z.cells _ this];exact h1 _ (by simp))
 have i:(fS z.cells n)=madeCells z.cells (n*z.cells.size):=rfl;cases n with
 |zero=>omega
 |succ n=>simp[o5,run_underlying m,zeroValue,typeInfo,hi,r,i,d]
def Dv(d:P.underlying t=ai (.slice el)):(o5 #[t] ty #[.slice A 0 cp]).run P w=.ok (.tuple #[]) w:=by cases A<;>simp[o5,run_underlying d]
def TR(hE:eB P E)(s:Ok E σ w c)(N:fw E σ a w c)(hd:∀d,o.dst=ai d->d<a.tmps.size){cl:Call}(ho:o.op=.call cl)(R:cl.callee=.builtin .clear)(h:(mg E nm o).val σ=ai e):hN P E σ a w c o e.ws:=by
 simp only[mg,ho,R]at h;split at h
 ·rename_i x hx;split at h
  ·rename_i t ht;obtain⟨k,hk,h⟩:=bu h;cases k with
   |l el=>
    obtain⟨v,h1,h⟩:=bu h;obtain⟨ws,h2,h⟩:=bu h;obtain rfl:=aL h;obtain⟨ev,kv⟩:=i7 N h1;have hu:=kY hE hk;have hx:=nG hx;have ht:=nG ht;have Q:∀{w'},(o5 #[t] o.type #[a.eval x]).run P w=.ok (.tuple #[]) w'->(execOp a.eval o).run P w=.ok (.value (.tuple #[])) w':=by intro w' hr;obtain⟨cs,xa⟩:=mT (P:=P) (a:=a) (w:=w) ho R;rw[xa,hx,ht];simp only[builtin,DZ,fD,wb];exact iZ hr
    have sv:jb E w c (.kz []) (.tuple #[]):=⟨#[],rfl,rfl,λj agg xs V=>by simp at V⟩
    have ay:∀A cp,a.eval x=.slice A 0 cp->(execOp a.eval o).run P w=.ok (.value (.tuple #[])) w:=λA cp hv=>Q (by rw[hv];exact Dv hu);have h5:∀(n:aN) (ex:aZ) (xs:Row) (lo hi:aN) (te:TI),σ (dj n)=.o (.row el ex xs)->E.ty el=ai te->plain te.ks=ao->xQ (c.P n) lo hi (a.eval x)->hN P E σ a w c o ([(dj n,.o (.row el ex (xs.take lo++aR te.ks (hi-lo)++xs.drop hi)))]++dw o (.kz [])):=by
     intro n ex xs lo hi te hg ha C hv;obtain⟨⟨t2,q1,O,kJ⟩,M,xj⟩:=s.obj n _ hg;obtain rfl:te=t2:=aL (ha.symm.trans q1);obtain⟨v1,v2,v3,v4⟩:=hv;have x3:hi<=xs.length:=by rw[<-M.n];exact v2
     have x6:=PW C;have xh:(aR te.ks (hi-lo)).length=hi-lo:=by simp[aR]
     by_cases hz:hi-lo=0
     ·have h9:xs.take lo++aR te.ks (hi-lo)++xs.drop hi=xs:=by
       have:hi=lo:=by omega
       subst this;simp[aR]
      rw[h9];have hr:(execOp a.eval o).run P w=.ok (.value (.tuple #[])) w:=by
       cases hq:(c.P n).nil with
       |true=>exact ay _ _ (v3 hq)
       |false=>
        rcases v4 hq with ⟨_,h⟩|⟨_,oo,_,h⟩
        ·rw[hz]at h;exact ay _ _ h
        ·exact ay _ _ h
      exact uf s N hd hg (s.obj n _ hg) (λb R=>R) (λzs hz=>by cases hz) sv (λn X=>by simp[cX]at X) (λb _ _=>rfl) (bW _) rfl rfl rfl (.inl hr)
     ·have m:(c.P n).nil=false:=by
       cases hq:(c.P n).nil with
       |false=>rfl
       |true=>have:=(M.nil hq).1;subst this;simp at x3;omega
      obtain⟨B,k1,k2,k3,k4,k5⟩:=M.mem m;rcases v4 m with ⟨u1,hv⟩|⟨u1,oo,_,hv⟩
      ·obtain⟨xm,xb,xi,_,_,xf⟩:=hE.info el te ha;obtain⟨z,xg,he,_⟩:=xf x6;have hf:z.cells.size=te.ks.length:=by rw[he];simp
       have x1:(c.P n).off+lo*(c.P n).sz+(hi-lo)*z.cells.size<=B.size:=by rw[hf,<-O,kc,<-dv];have:(lo+(hi-lo))*(c.P n).sz<=(c.P n).cap*(c.P n).sz:=b9 _ (by omega);omega
       have hr:=P9 (P:=P) (w:=w) (ty:=o.type) (of:=(c.P n).off+lo*(c.P n).sz) (n:=hi-lo) (cp:=(c.P n).cap-lo) hu xb xg (by omega) k1 x1 (by rw[he];intro u hc;obtain⟨k,xl,rfl⟩:=cU.1 (by simpa using hc:u∈te.ks.map iM);cases k<;>rfl);rw[<-hv]at hr;have x8:Own σ c (c.P n).blk:=⟨n,_,hg,.inl ⟨m,rfl⟩⟩
       rw[hf,he]at hr;have x4:(madeCells (te.ks.map iM).toArray ((hi-lo)*te.ks.length)).toList.length=(hi-lo)*te.ks.length:=by simp[size_madeCells]
       have H:(c.P n).off+lo*(c.P n).sz+(madeCells (te.ks.map iM).toArray ((hi-lo)*te.ks.length)).toList.length<=B.size:=by rw[x4,<-hf];exact x1
       have x0:=k1.setRow (eT H);have S:=gv H;generalize x5:ew B ((c.P n).off+lo*(c.P n).sz) (madeCells (te.ks.map iM).toArray ((hi-lo)*te.ks.length)).toList=new at hr x0 S;have x7:new.size=B.size:=by rw[<-x5];exact eT H
       have Y:∀b,b≠(c.P n).blk->(w.setRow (c.P n).blk new).heap[b]? =w.heap[b]? :=λb R=>setRow_other w _ b _ R;have hw:∀b,c.K b->(w.setRow (c.P n).blk new).heap[b]? =w.heap[b]? :=λb hk=>Y b (λe=>by subst e;exact s.Hk x8 hk);have f:∀y∈xs.take lo++aR te.ks (hi-lo)++xs.drop hi,y.map CV.kd=te.ks:=by
        intro y hy;rw[a_,a_]at hy;rcases hy with (hy|hy)|hy
        ·exact kJ y (iK hy)
        ·exact yQ x6 _ y hy
        ·exact kJ y (lL hy)
       refine uf s N hd hg (ob':=.row el ex (xs.take lo++aR te.ks (hi-lo)++xs.drop hi)) ?_ ?_ (λzs hz=>by cases hz) (w':=w.setRow (c.P n).blk new) ⟨#[],rfl,rfl,λj agg xs V=>by simp at V⟩ (λn X=>by simp[cX]at X) (λb _ xd=>Y b (λe=>xd (.inl ⟨m,e⟩))) (by simp[lJ]) rfl rfl rfl (.inl (Q hr))
       ·refine⟨⟨te,ha,O,f⟩,⟨?_,λX=>(by rw[m]at X;cases X),λ_=>⟨new,x0,k2,k3,by rw[x7];exact k4,λi y j x r V=> ?_⟩⟩,λ_=>⟨λi j hh=>cO hh (uw f C),λi j i' j' hh=>cO hh (uw f C)⟩⟩
        ·rw[M.n];simp[aR];omega
        ·have hl:=im C (f y (aU r)) V;have xk:j<te.ks.length:=by rw[<-f y (aU r),bK];exact(aW.1 V).1
         have x9:∀u,Sc u x->(if ex=ao then XC E (w.setRow (c.P n).blk new) (c.G n) i j u x else Holds E (w.setRow (c.P n).blk new) c.K u x):=by
          intro u hu;split
          ·exact uZ hl hu
          ·exact k7 hl hu
         rw[IJ v1 x3 xh]at r;rw[S,x4];by_cases hq:lo<=i/\i<hi
         ·rw[bm hq]at r;obtain⟨U,k,x2,rfl⟩:=u9 r V;have h2:(i-lo+1)*te.ks.length<=(hi-lo)*te.ks.length:=b9 _ U;have h3:i*te.ks.length=lo*te.ks.length+(i-lo)*te.ks.length:=by rw[<-dv];congr 1;omega
          rw[dv]at h2;rw[O,bm (by omega)];refine⟨iM k,?_,x9 _ ?_⟩
          ·have:=lW (n:=hi-lo) U x2;rw[da,<-this];congr 1;omega
          ·have xe:=bE.1 C k (aU x2);cases k<;>first|exact⟨rfl,trivial⟩|exact⟨rfl,bB _⟩|cases xe
         ·rw[bk hq]at r;obtain⟨u,hc,h7⟩:=k5 i y j x r V;refine⟨u,?_,x9 u ?_⟩
          ·rw[bk ?_];exact hc;rw[O];by_cases xc:i<lo
           ·have:(i+1)*te.ks.length<=lo*te.ks.length:=b9 _ xc;rw[dv]at this;omega
           ·have:hi*te.ks.length<=i*te.ks.length:=b9 _ (by omega);have h3:hi*te.ks.length=lo*te.ks.length+(hi-lo)*te.ks.length:=by rw[<-dv];congr 1;omega
            omega
          ·split at h7
           ·exact u7 h7 hl
           ·exact pL h7 hl
       ·rintro b (R|⟨_,i,j,hh,_⟩)
        ·exact .inl R
        ·exact cO hh (uw f C)
      ·omega
    unfold Sk at h2;cases v with
    |nl=>obtain rfl:=aL h2;exact gM s N hd sv (λn X=>by simp[cX]at X) (ay _ _ ev)
    |own n=>
     obtain⟨ob,hg,h2⟩:=bu h2;have hg:=dF hg;cases ob with
     |row e' ex xs=>obtain⟨te,q1,h2⟩:=bu h2;obtain⟨q2,h2⟩:=cZ h2;obtain rfl:=aL h2;simp only[aM]at q2;have:=aX q2.1;subst this;have ev:a.eval x=kX (c.P n):=ev;have:=h5 n ex xs 0 xs.length te hg (dZ q1) q2.2 (by rw[ev];exact wD s hg);simpa using this
     |_=>simp at h2
    |vw n lo hi=>
     obtain⟨ob,hg,h2⟩:=bu h2;have hg:=dF hg;cases ob with
     |row e' ex xs=>obtain⟨te,q1,h2⟩:=bu h2;obtain⟨q2,h2⟩:=cZ h2;obtain rfl:=aL h2;simp only[aM]at q2;have:=aX q2.1;subst this;exact h5 n ex xs lo hi te hg (dZ q1) q2.2 ev
     |_=>simp at h2
    |_=>simp at h2
   |_=>simp at h
  ·simp at h
 ·simp at h
end
end Go.FG
namespace Go.FG
def kD(D:aE (aN×Obj)):aE (aN×e9):=D.map λd=>(dj d.1,.o d.2)
def u_(D:aE (aN×Obj))(m:aN):Prop:=∃x,(m,x)∈D
def YY:∀(D:aE (aN×Obj)) (σ:St),(∀m,(wr σ (kD D) (dj m)=σ (dj m)/\¬u_ D m)\/∃x,(m,x)∈D/\wr σ (kD D) (dj m)=.o x)/\∀m,slot (wr σ (kD D)) m=slot σ m:=by
 intro D;induction D with
 |nil=>intro σ;exact⟨λm=>.inl ⟨rfl,λ⟨x,j⟩=>by cases j⟩,λm=>rfl⟩
 |cons d D ih=>
  intro σ;obtain⟨n,x⟩:=d;obtain⟨h1,h2⟩:=ih (p_ σ (dj n) (.o x));refine⟨λm=> ?_,λm=> ?_⟩
  ·show(wr (p_ σ (dj n) (.o x)) (kD D) (dj m)=_/\_)\/∃y,_/\wr (p_ σ (dj n) (.o x)) (kD D) (dj m)=_;rcases h1 m with ⟨h,i⟩|⟨y,h,i⟩
   ·rw[qv]at h;by_cases hm:m=n
    ·subst hm;exact .inr ⟨x,by simp,by rw[h,bm rfl]⟩
    ·refine .inl ⟨by rw[h,bk hm],λ⟨y,f⟩=> ?_⟩;rcases cF.1 f with f|f
     ·cases f;exact hm rfl
     ·exact i ⟨y,f⟩
   ·exact .inr ⟨y,cK _ h,i⟩
  ·show slot (wr (p_ σ (dj n) (.o x)) (kD D)) m=_;rw[h2,jv]
section
variable {P:dx} {E:gy} {σ:St} {a:Act} {w:cN} {c:gQ} {o:ia} {nm:aN} {e:tF}
def IH(r:Ok E σ w c)(U:fw E σ a w c)(hd:∀d,o.dst=ai d->d<a.tmps.size)
  (hA:jK σ c c')
  (Q:∀n x,(n,x)∈D->qf E w' c' n x)
  (B:∀n x b,(n,x)∈D->fN c' n x b->(kh (u_ D) σ c b\/w.heap.size<=b)/\¬c'.K b)
  (V:∀n x n' t b,(n,x)∈D->(n',t)∈D->fN c' n x b->fN c' n' t b->n=n')
  (H:∀n xs,(n,Obj.box xs)∈D->∀a∈xs,∀m∈bP a,σ (dj m)≠ .jW\/u_ D m)
  (hK:∀b,c.K b->c'.K b) (u:∀b,c'.K b->c.K b\/kh (u_ D) σ c b\/w.heap.size<=b) (k:∀b,c'.K b->b<w'.heap.size)
  (hW:∀b,b<w.heap.size->¬kh (u_ D) σ c b->w'.heap[b]? =w.heap[b]?) (Y:w.heap.size<=w'.heap.size) (R:w'.os=w.os) (h5:w'.tape=w.tape) (S:w'.output=w.output)
  (X:jb E w' c' s v) (M:∀n∈cX s,σ (dj n)≠ .jW\/u_ D n):
  Ok E (wr σ (kD D++dw o s)) w' c'/\fw E (wr σ (kD D++dw o s)) (a.put o.dst v) w' c'/\Grow σ c w (wr σ (kD D++dw o s)) c' w':=by
 rw[Qd];obtain⟨d1,d2⟩:=YY D σ;let σ1:=wr σ (kD D);obtain⟨s1,s2,s3⟩:=sN σ1 o s;have key:∀m,(wr σ1 (dw o s) (dj m)=σ (dj m)/\¬u_ D m)\/∃x,(m,x)∈D/\wr σ1 (dw o s) (dj m)=.o x:=λm=>by rw[s3];exact d1 m
 have j:∀m,(σ (dj m)≠ .jW\/u_ D m)->wr σ1 (dw o s) (dj m)≠ .jW:=by
  intro m hm;rcases key m with ⟨h1,h2⟩|⟨x,_,h2⟩
  ·rw[h1];exact hm.resolve_right h2
  ·rw[h2];simp
 have get:∀m x,u_ D m->wr σ1 (dw o s) (dj m)=.o x->(m,x)∈D:=by
  intro m x hm hx;rcases key m with ⟨_,h2⟩|⟨y,h1,h2⟩
  ·exact cO hm h2
  ·rw[h2]at hx;cases hx;exact h1
 have C:=r.change (σ':=wr σ1 (dw o s)) (w':=w') (c':=c') (u_ D) (λm hm=>(key m).elim (λh=>h.1) (λ⟨x,h1,_⟩=>cO ⟨x,h1⟩ hm)) (λm hm=>j m (.inl hm)) hA hW Y hK u k
  (λm x hm i=>Q m x (get m x hm i)) (λm x b hm i z=>B m x b (get m x hm i) z) (λm x m' t b hm N i O z A=>V m x m' t b (get m x hm i) (get m' t N O) z A)
  (λm xs hm i y hy n f=>j n (H m xs (get m _ hm i) y hy n f)) R h5 S
 refine⟨C.1,?_,C.2⟩
 refine U.change r C.2 hA (λm hm=>j m (.inl hm)) o v (λn f=>by rw[s1 n f];exact d2 n) (λd i=>⟨hd d i,?_,?_⟩)
 ·rw[s2 d i];exact X
 ·rw[s2 d i];intro n f;exact j n (M n f)
def KW(t:Ok E σ w c)(z:fw E σ a w c)(hd:∀d,o.dst=ai d->d<a.tmps.size)
  (N:jK σ c c')
  (r:∀n x,(n,x)∈D->qf E w' c' n x)
  (i:∀n x b,(n,x)∈D->fN c' n x b->(kh (u_ D) σ c b\/w.heap.size<=b)/\¬c'.K b)
  (A:∀n x M O b,(n,x)∈D->(M,O)∈D->fN c' n x b->fN c' M O b->n=M)
  (j:∀n xs,(n,Obj.box xs)∈D->∀a∈xs,∀m∈bP a,σ (dj m)≠ .jW\/u_ D m)
  (R:∀b,c.K b->c'.K b) (h:∀b,c'.K b->c.K b\/kh (u_ D) σ c b\/w.heap.size<=b) (f:∀b,c'.K b->b<w'.heap.size)
  (hW:∀b,b<w.heap.size->¬kh (u_ D) σ c b->w'.heap[b]? =w.heap[b]?) (C:w.heap.size<=w'.heap.size) (u:w'.os=w.os) (H:w'.tape=w.tape) (y:w'.output=w.output)
  (B:jb E w' c' s v) (k:∀n∈cX s,σ (dj n)≠ .jW\/u_ D n)
  (U:(execOp a.eval o).run P w=.ok (.value v) w'):hN P E σ a w c o (kD D++dw o s):=by intro K Q S;obtain⟨h1,h2,h3⟩:=IH t z hd N r i A j R h f hW C u H y B k;exact yO U (S v w' c' h1 h2 h3 N.w)
def Cf(σ:St)(c:gQ)(m:aG aN)(u:bS):CV->Prop
 |.l e d=>(m=ay/\d=[]/\u=.slice ay 0 0)\/∃nm,m=ai nm/\u=kX (c.P nm)/\σ (dj nm)=.o (.row e ao d)
 |x=>Sc u x
def ER(L:aE aN):aE (aN×Obj):=L.map λn=>(n,.dead)
def CJ(L:aE aN):oI L=kD (ER L):=by unfold oI kD ER;rw[jL];rfl
def Wr(h:(IU ao k x).val σ=ai (d,ws)):
  d.kd=k/\∃m:aG aN,ws=oI m.toList/\(∀nm,m=ai nm->∃ob,σ (dj nm)=.o ob)/\∀u,eI E w c x u->Cf σ c m u d:=by
 have pl:plain [k]=ao->d.kd=k/\∃m:aG aN,ws=oI m.toList/\(∀nm,m=ai nm->∃ob,σ (dj nm)=.o ob)/\∀u,eI E w c x u->Cf σ c m u d:=by
  intro hp;have j:d.kd=k/\ws=[]:=by
   cases k<;>cases x<;>simp[IU,plain]at h hp<;>first
    |(obtain⟨rfl,rfl⟩:=h;exact⟨rfl,rfl⟩)
    |(split at h<;>simp at h;rename_i hk;subst hk;obtain⟨rfl,rfl⟩:=h;exact⟨rfl,rfl⟩)
  refine⟨j.1,ay,j.2,λnm h=>(by cases h),λu f=> ?_⟩
  obtain⟨_,h2,h3,_⟩:=zU hp h f;cases d<;>first|exact h2|simp[uQ]at h3
 cases k with
 |i=>exact pl rfl
 |b=>exact pl rfl
 |s=>exact pl rfl
 |o=>cases x<;>simp[IU]at h
 |l e=>
  cases x with
  |nl=>obtain⟨rfl,rfl⟩:=bX (aL h);exact⟨rfl,ay,rfl,λnm h=>(by cases h),λu f=>.inl ⟨rfl,rfl,f⟩⟩
  |sh r xs=>simp[IU]at h
  |own n=>
   obtain⟨ob,hg,h⟩:=bu h;have hg:=dF hg;cases ob with
   |row r t xs=>obtain⟨h1,h⟩:=cZ h;obtain⟨rfl,rfl⟩:=bX (aL h);simp only[aM]at h1;have:=aX h1.1;subst this;obtain rfl:=h1.2;exact⟨rfl,ai n,rfl,λnm h=>(by cases h;exact⟨_,hg⟩),λu f=>.inr ⟨n,rfl,f,hg⟩⟩
   |f_=>simp at h
   |_=>simp at h
  |_=>simp[IU]at h
def Sr:∀{ks:aE Ck} {xs:aE AV} {cs:aE CV} {ws:aE (aN×e9)} (h:(zV ao ks xs).val σ=ai (cs,ws)),cs.map CV.kd=ks/\xs.length=ks.length/\∃(L:aE aN) (M:aN->aG aN),ws=oI L/\
  (∀nm∈L,∃ob,σ (dj nm)=.o ob)/\(∀j nm,M j=ai nm->nm∈L)/\(L.Nodup->∀i j nm,M i=ai nm->M j=ai nm->i=j)/\
  ∀(d:eN bS),gh E w c d xs->∀(q:aN) (x:CV),cs[q]? =ai x->∃u:bS,d[q]? =ai u/\Cf σ c (M q) u x:=by
 intro ks;induction ks with
 |nil=>
  intro xs cs ws h;cases xs with
  |nil=>obtain⟨rfl,rfl⟩:=bX (aL h);exact⟨rfl,rfl,[],λ_=>ay,rfl,λnm h=>(by cases h),λj nm h=>(by cases h),λ_ i j nm h=>(by cases h),λ_ _ q x hq=>by simp at hq⟩
  |cons=>simp[zV]at h
 |cons k ks ih=>
  intro xs cs ws h;cases xs with
  |nil=>simp[zV]at h
  |cons x xs=>
   obtain⟨⟨cv,w1⟩,h1,h⟩:=bu h;obtain⟨⟨cr,w2⟩,h2,h⟩:=bu h;obtain⟨rfl,rfl⟩:=bX (aL h);obtain⟨H,m,rfl,K,N⟩:=Wr (E:=E) (w:=w) (c:=c) h1;obtain⟨R,S,L,M,rfl,U,B,V,X⟩:=ih h2;refine⟨by simp[H,R],by simp[S],m.toList++L,λj=>match j with|0=>m|j+1=>M j,by simp[oI],?_,?_,?_,?_⟩
   ·intro nm t;rcases a_.1 t with h|h
    ·exact K nm (by simpa using h)
    ·exact U nm h
   ·intro j nm f;cases j with
    |zero=>exact bZ _ (by simpa using f)
    |succ j=>exact bR _ (B j nm f)
   ·intro s i j nm hi f;obtain⟨n1,Y,C⟩:=eK.1 s;cases i with
    |zero=>
     cases j with
     |zero=>rfl
     |succ j=>exact cO rfl (C nm (by simpa using hi) nm (B j nm f))
    |succ i=>
     cases j with
     |zero=>exact cO rfl (C nm (by simpa using f) nm (B i nm hi))
     |succ j=>rw[V Y i j nm hi f]
   ·intro d z q y hq;cases q with
    |zero=>cases hq;obtain⟨u,r,O⟩:=z.2 0 x rfl;exact⟨u,r,N u O⟩
    |succ q=>
     have A:gh E w c (d.extract 1 d.size) xs:=by
      refine⟨by simp;have:=z.1;simp at this;omega,λj b f=> ?_⟩
      obtain⟨u,r,Q⟩:=z.2 (j+1) b f;refine⟨u,?_,Q⟩
      have:=(dD.1 r).1;rw[et,bm (by omega),i_];exact r
     obtain⟨u,r1,r2⟩:=X _ A q y hq;refine⟨u,?_,r2⟩
     rw[et]at r1;split at r1
     ·rw[i_];exact r1
     ·cases r1
def KI(m:Ok E σ w c)(h:(IU aq k x).val σ=ai (f,ws)):f.kd=k/\ws=[]/\∀u,eI E w c x u->Holds E w c.K u f:=by
 have pl:plain [k]=ao->f.kd=k/\ws=[]/\∀u,eI E w c x u->Holds E w c.K u f:=by
  intro hp;have j:f.kd=k/\ws=[]:=by
   cases k<;>cases x<;>simp[IU,plain]at h hp<;>first
    |(obtain⟨rfl,rfl⟩:=h;exact⟨rfl,rfl⟩)
    |(split at h<;>simp at h;rename_i hk;subst hk;obtain⟨rfl,rfl⟩:=h;exact⟨rfl,rfl⟩)
  refine⟨j.1,j.2,λu d=> ?_⟩
  obtain⟨_,h2,h3,_⟩:=zU hp h d;exact k7 h3 h2
 cases k with
 |i=>exact pl rfl
 |b=>exact pl rfl
 |s=>exact pl rfl
 |o=>cases x<;>simp[IU]at h
 |l e=>
  cases x with
  |nl=>obtain⟨rfl,rfl⟩:=bX (aL h);exact⟨rfl,rfl,λu d=>by rw[show u=_ from d];exact .nl _ _ _⟩
  |sh r xs=>obtain⟨h1,h⟩:=cZ h;obtain⟨rfl,rfl⟩:=bX (aL h);simp only[aM]at h1;have:=aX h1.1;subst this;exact⟨rfl,rfl,λu d=>d⟩
  |own n=>
   obtain⟨ob,hg,h⟩:=bu h;have hg:=dF hg;cases ob with
   |row r t xs=>obtain⟨h1,h⟩:=cZ h;simp at h
   |f_ r xs=>
    obtain⟨h1,h⟩:=cZ h;obtain⟨rfl,rfl⟩:=bX (aL h);simp only[aM]at h1;have:=aX h1.1;subst this;refine⟨rfl,rfl,λu d=> ?_⟩
    have d:u=kX (c.P n):=d;rw[d];exact(m.obj n _ hg).1
   |_=>simp at h
  |_=>simp[IU]at h
def IV(i:Ok E σ w c):∀{ks:aE Ck} {xs:aE AV} {cs:aE CV} {ws:aE (aN×e9)} (h:(zV aq ks xs).val σ=ai (cs,ws)),cs.map CV.kd=ks/\xs.length=ks.length/\ws=[]/\
  ∀(d:eN bS),gh E w c d xs->∀(q:aN) (x:CV),cs[q]? =ai x->∃u:bS,d[q]? =ai u/\Holds E w c.K u x:=by
 intro ks;induction ks with
 |nil=>
  intro xs cs ws h;cases xs with
  |nil=>obtain⟨rfl,rfl⟩:=bX (aL h);exact⟨rfl,rfl,rfl,λ_ _ q x hq=>by simp at hq⟩
  |cons=>simp[zV]at h
 |cons k ks ih=>
  intro xs cs ws h;cases xs with
  |nil=>simp[zV]at h
  |cons x xs=>
   obtain⟨⟨Q,w1⟩,h1,h⟩:=bu h;obtain⟨⟨cr,R⟩,h2,h⟩:=bu h;obtain⟨rfl,rfl⟩:=bX (aL h);obtain⟨s,t,z⟩:=KI i h1;obtain⟨H,M,N,O⟩:=ih h2;refine⟨by simp[s,H],by simp[M],by rw[t,N];rfl,λd m q y hq=> ?_⟩
   cases q with
   |zero=>cases hq;obtain⟨u,f,A⟩:=m.2 0 x rfl;exact⟨u,f,z u A⟩
   |succ q=>
    have r:gh E w c (d.extract 1 d.size) xs:=by
     refine⟨by simp;have:=m.1;simp at this;omega,λj b C=> ?_⟩
     obtain⟨u,f,B⟩:=m.2 (j+1) b C;refine⟨u,?_,B⟩
     have:=(dD.1 f).1;rw[et,bm (by omega),i_];exact f
    obtain⟨u,r1,r2⟩:=O _ r q y hq;refine⟨u,?_,r2⟩
    rw[et]at r1;split at r1
    ·rw[i_];exact r1
    ·cases r1
end
end Go.FG
namespace Go.FG
section
variable {P:dx} {E:gy} {σ:St} {a:Act} {w:cN} {c:gQ} {o:ia} {nm:aN} {e:tF}
structure Inv (E:gy) (σ:St) (w:cN) (c:gQ) (ex:aZ) (ks:aE Ck) (gW:eN bS) (z:Row) (N:aN->aN->aG aN) (S:aE aN):Prop where
 size:gW.size=z.length*ks.length
 sh:∀y∈z,y.map CV.kd=ks
 inS:∀i j nm,N i j=ai nm->nm∈S
 inj:∀i j i' j' nm,N i j=ai nm->N i' j'=ai nm->i=i'/\j=j'
 cell:∀(i:aN) (y:aE CV) (j:aN) (x:CV),z[i]? =ai y->y[j]? =ai x->∃u:bS,gW[i*ks.length+j]? =ai u/\(if ex=ao then Cf σ c (N i j) u x else Holds E w c.K u x)
def Inv.set{ex:aZ}{ks:aE Ck}{m:eN bS}{z:Row}{N:aN->aN->aG aN}{S:aE aN}(h:Inv E σ w c ex ks m z N S){i0:aN}(hi:i0<z.length){cs:aE CV}{vs:eN bS}(hk:cs.map CV.kd=ks)(t:vs.size=ks.length)
  {M:aN->aG aN} {L:aE aN} (hM:∀j nm,M j=ai nm->nm∈L) (C:∀i j nm,M i=ai nm->M j=ai nm->i=j) (hd:∀nm∈L,nm∉S)
  (Y:∀(q:aN) (x:CV),cs[q]? =ai x->∃u:bS,vs[q]? =ai u/\(if ex=ao then Cf σ c (M q) u x else Holds E w c.K u x)):
  Inv E σ w c ex ks (ew m (i0*ks.length) vs.toList) (z.set i0 cs) (λi j=>if i=i0 then M j else N i j) (S++L):=by
 have h1:(i0+1)*ks.length<=z.length*ks.length:=b9 _ hi;rw[dv]at h1;have U:i0*ks.length+vs.toList.length<=m.size:=by rw[h.size,show vs.toList.length=ks.length from t];omega
 refine⟨by rw[eT U,ch];exact h.size,?_,?_,?_,?_⟩
 ·intro y k;rcases rS k with k|k
  ·exact h.sh y k
  ·rw[k];exact hk
 ·intro i j nm f;replace f:(if i=i0 then M j else N i j)=ai nm:=f;split at f
  ·exact bR _ (hM j nm f)
  ·exact bZ _ (h.inS i j nm f)
 ·intro i j B s nm f d;replace f:(if i=i0 then M j else N i j)=ai nm:=f;replace d:(if B=i0 then M s else N B s)=ai nm:=d;split at f
  ·rename_i V;split at d
   ·rename_i X;exact⟨V.trans X.symm,C j s nm f d⟩
   ·exact cO (h.inS B s nm d) (hd nm (hM j nm f))
  ·split at d
   ·exact cO (h.inS i j nm f) (hd nm (hM s nm d))
   ·exact h.inj i j B s nm f d
 ·intro i y j x k A;rw[Qf]at k;rw[gv U,show vs.toList.length=ks.length from t];by_cases r:i0=i
  ·subst r;rw[bm rfl,bm hi]at k;cases k;have hj:j<ks.length:=by rw[<-hk,bK];exact(aW.1 A).1
   obtain⟨u,R,Q⟩:=Y j x A;refine⟨u,?_,by simpa using Q⟩
   rw[bm (by omega),da,<-R];congr 1;omega
  ·rw[bk r]at k;obtain⟨u,R,Q⟩:=h.cell i y j x k A;have hj:j<ks.length:=by rw[<-h.sh y (aU k),bK];exact(aW.1 A).1
   refine⟨u,?_,by rw[show(if i=i0 then M j else N i j)=N i j from bk (λe=>r e.symm)];exact Q⟩
   rw[bk ?_];exact R;rcases Qj r with O|H
   ·have:(i0+1)*ks.length<=i*ks.length:=b9 _ O;rw[dv]at this;omega
   ·have:(i+1)*ks.length<=i0*ks.length:=b9 _ H;rw[dv]at this;omega
def O5(U:Ok E σ w c)(X:fw E σ a w c){ex:aZ}{ks:aE Ck}(h5:0<ks.length):∀(ps:aE (aN×fB)) (z H:Row) (ws:aE (aN×e9)),(KH ex ks ps z).val σ=ai (H,ws)->
  H.length=z.length/\∃L,ws=oI L/\(∀nm∈L,∃ob,σ (dj nm)=.o ob)/\∀d N S,(S++L).Nodup->Inv E σ w c ex ks d z N S->
   ∃f O,pS (λi=>ai (i*ks.length,ks.length)) d (ps.map λ(i,x)=>(i,a.eval x))=ai f/\Inv E σ w c ex ks f H O (S++L):=by
 intro ps;induction ps with
 |nil=>intro z H ws h;obtain⟨rfl,rfl⟩:=bX (aL h);exact⟨rfl,[],rfl,λnm h=>(by cases h),λd N S _ hi=>⟨d,N,rfl,by rw[d_];exact hi⟩⟩
 |cons p r ih=>
  obtain⟨i0,x⟩:=p;intro z H ws h;obtain⟨v,h1,h⟩:=bu h;obtain⟨V,h7⟩:=mr X h1;cases v with
  |v g ys=>
   obtain⟨h2,h⟩:=cZ h;have h2:=b8 h2;obtain⟨⟨cs,w1⟩,h3,h⟩:=bu h;obtain⟨⟨z1,w2⟩,h4,h⟩:=bu h;obtain⟨rfl,rfl⟩:=bX (aL h);have s:=qG.cells V
   have IU:cs.map CV.kd=ks/\ys.length=ks.length/\∃(L:aE aN) (M:aN->aG aN),w1=oI L/\(∀nm∈L,∃ob,σ (dj nm)=.o ob)/\(∀j nm,M j=ai nm->nm∈L)/\(L.Nodup->∀i j nm,M i=ai nm->M j=ai nm->i=j)/\
     ∀(q:aN) (x:CV),cs[q]? =ai x->∃u:bS,(a.eval ‹fB›).cells[q]? =ai u/\(if ex=ao then Cf σ c (M q) u x else Holds E w c.K u x):=by
    cases ex with
    |true=>obtain⟨A,B,L,M,Y,C,q5,q6,q7⟩:=Sr (E:=E) (w:=w) (c:=c) h3;exact⟨A,B,L,M,Y,C,q5,q6,λq x hq=>by simpa using q7 _ s q x hq⟩
    |false=>obtain⟨A,B,Y,C⟩:=IV U h3;exact⟨A,B,[],λ_=>ay,Y,λnm h=>(by cases h),λj nm h=>(by cases h),λ_ i j nm h=>(by cases h),λq x hq=>by simpa using C _ s q x hq⟩
   obtain⟨A,B,L,M,rfl,C,q5,q6,q7⟩:=IU;obtain⟨i1,L2,rfl,i3,i4⟩:=ih _ _ _ h4;rw[ch]at i1;refine⟨i1,L++L2,by simp[oI],λnm Q=>(a_.1 Q).elim (C nm) (i3 nm),λd N S R k=> ?_⟩
   have m:((S++L)++L2).Nodup:=by rw[cg];exact R
   obtain⟨n1,n2,n3⟩:=eK.1 m;obtain⟨m1,m2,m3⟩:=eK.1 n1;have y:(a.eval x).cells.size=ks.length:=by rw[s.1,B]
   have t:=k.set (i0:=i0) (by omega) A y q5 (q6 m2) (λnm Q hs=>m3 nm hs nm Q rfl) q7;obtain⟨f,O,f1,f2⟩:=i4 _ _ _ m t;refine⟨f,O,?_,by rw[<-cg];exact f2⟩
   have h1:(i0+1)*ks.length<=z.length*ks.length:=b9 _ h2;rw[dv,<-k.size]at h1;simp only[fD,pS];rw[bk (by simp[y];omega)];have:=EX (off:=i0*ks.length) (vs:=(a.eval x).cells) (cells:=d) (by omega);rw[<-f1];exact gu (λq=>pS (λi=>ai (i*ks.length,ks.length)) q _) this
  |kz=>simp at h
  |un=>simp at h
def Du{t el n:aN}{d:TypeInfo}{z:bS}{ks:aE Ck}{ps:eN (aN×bS)}{cells:eN bS}(r:P.underlying t=ai (.slice el))(hi:P.info? el=ai d)(h:d.size=ks.length)(u:d.zero=ai z)(m:z.cells=(ks.map iM).toArray)
  (s:n*ks.length<=16777216) (k:pS (λi=>ai (i*ks.length,ks.length)) (madeCells (ks.map iM).toArray (n*ks.length)) ps.toList=ai cells):
  (AD t n ps).run P w=.ok (.slice (ai (ad w.heap.size 0)) n n) (w.alloc (.cells cells el)):=by
 have f:¬(n*ks.length>2^24):=by omega
 by_cases h0:n*ks.length=0
 ·have j:(Array.range (n*ks.length)).map (λi=>(#[]:eN bS)[i%(#[]:eN bS).size]!)=madeCells (ks.map iM).toArray (n*ks.length):=by rw[h0];simp[madeCells,Array.range_zero']
  simp only[AD,cx,run_underlying r,bI,sizeOf,typeInfo,program,nu,hi,h,c8,h0,if_true,np];rw[h0]at j k;rw[j,k];simp only[newRow,newObj,cx,nu,bI,c8];rfl
 ·have j:(Array.range (n*ks.length)).map (λi=>z.cells[i%z.cells.size]!)=madeCells (ks.map iM).toArray (n*ks.length):=by rw[m];rfl
  simp only[AD,cx,run_underlying r,bI,sizeOf,typeInfo,program,nu,hi,h,f,if_false,c8,h0,zeroValue,u,np];rw[j,k];simp only[newRow,newObj,cx,nu,bI,c8];rfl
def ry:∀{l:aE aN},uo l=ao->l.Nodup
 |[],_=>.nil
 |n::r,h=>by
  simp only[uo,aM,di]at h;refine kU.2 ⟨λhm=> ?_,ry h.2⟩;have:mJ n r=true:=by
   have:=h.1;clear h;induction r with
   |nil=>cases hm
   |cons m r ih=>
    rcases cF.1 hm with rfl|hm
    ·simp[mJ]
    ·simp only[mJ,iG]at this⊢;rw[ih hm this.2];simp
  rw[this]at h;cases h.1
def sA{α β:Type}{f:α->β}:∀{l:aE α},(l.map f).Nodup->l.Nodup
 |[],_=>.nil
 |x::l,h=>by
  rw[fD,kU]at h;exact kU.2 ⟨λhm=>h.1 (cU.2 ⟨x,hm,rfl⟩),sA h.2⟩
def WB{ks:aE Ck}(f:flat E ks=ao){e:aN}(hm:Ck.l e∈ks):∃t,E.ty e=ai t/\plain t.ks=true:=by
 have h:=bE.1 f _ hm;replace h:(match E.ty e with|some ti=>plain ti.ks|none=>aq)=true:=h;cases d:E.ty e with
 |none=>rw[d]at h;cases h
 |some t=>rw[d]at h;exact⟨t,rfl,h⟩
def P6(d:Ok E σ w c){n e:aN}{ex:aZ}{xs:Row}(hg:σ (dj n)=.o (.row e ex xs)){t:TI}(m:E.ty e=ai t)(hp:plain t.ks=ao):
  (c.P n).sz=t.ks.length/\(∀y∈xs,y.map CV.kd=t.ks)/\jq w (c.P n) xs (λ_ _ u x=>Sc u x):=by
 obtain⟨⟨A,r,s,h⟩,z,_⟩:=d.obj n _ hg;obtain rfl:t=A:=aL (m.symm.trans r);refine⟨s,h,z.frame (λ_=>rfl) (λi j y x u hi k f=> ?_)⟩
 have hl:=im hp (h y (aU hi)) k;split at f
 ·exact u7 f hl
 ·exact pL f hl
def Si(f:Ok E σ w c)(A:flat E ks=ao)(d:G i j=match m with|some n=>c.P n|none=>Lf E ks i j)(z:ks[j]? =ai x.kd)(hw:∀b,b<w.heap.size->(∃n,m=ai n/\b=(c.P n).blk)->w'.heap[b]? =w.heap[b]?)(h:Cf σ c m u x):XC E w' G i j u x:=by
 cases x with
 |l e M=>
  obtain⟨t,r,hp⟩:=WB A (aU z);rcases h with ⟨rfl,rfl,rfl⟩|⟨n,rfl,rfl,hg⟩
  ·refine⟨by rw[d];rfl,t,r,hp,?_,λy B=>(by cases B),⟨by rw[d];rfl,λ_=>⟨rfl,by rw[d];rfl⟩,λk=>by rw[d]at k;cases k⟩⟩
   rw[d];show(match ks[j]? with|some (.l e)=>(match E.ty e with|some t=>t.ks.length|none=>0)|_=>0)=_;rw[z];simp only[CV.kd,r]
  ·obtain⟨C,H,K⟩:=P6 f hg r hp;refine⟨by rw[d],t,r,hp,by rw[d];exact C,H,?_⟩
   rw[d];refine K.frame (λk=>hw _ (Own.lt f ⟨n,_,hg,.inl ⟨k,rfl⟩⟩) ⟨n,rfl,rfl⟩) (λ_ _ _ _ _ _ _ h=>h)
 |i=>exact h
 |b=>exact h
 |s=>exact h
def El(hE:eB P E)(A:Ok E σ w c)(hv:fw E σ a w c)(hd:∀d,o.dst=ai d->d<a.tmps.size)(ho:o.op=.buildSlice t n ps)(h:(mg E nm o).val σ=ai e)(hc:e.cond=ao):hN P E σ a w c o e.ws:=by
 simp only[mg,ho]at h;obtain⟨ti,h1,h⟩:=bu h;have h1:=dZ h1;split at h
 ·rename_i el x2 x5;obtain⟨te,h2,h⟩:=bu h;have h2:=dZ h2;obtain⟨X,h⟩:=cZ h;obtain⟨h5,_,h⟩:=bu h;obtain⟨⟨xs,ws⟩,h3,h⟩:=bu h;obtain⟨u,h4,h⟩:=bu h;obtain⟨hf,xe⟩:=kW h4;obtain rfl:=aL h;simp only[aM]at hc;obtain⟨S,V⟩:=hc;have S:=b8 S;have hu:=pD hE h1 x2 x5;obtain⟨xf,hi,x9,_,R,hz⟩:=hE.info el te h2;obtain⟨z,xc,xd,_⟩:=hz X;have h9:(h5&&flat E te.ks)=ao->flat E te.ks=true:=λh=>by simp only[aM]at h;exact h.2
  generalize (h5&&flat E te.ks)=ex at h3 h9⊢;obtain⟨hj,L,rfl,hL,ht⟩:=O5 (c:=c) A hv R ps.toList _ _ _ h3;have V:L.Nodup:=by have:=ry V;unfold oI at this;rw[jL]at this;exact sA this
  obtain⟨H,N,U,f⟩:=ht (madeCells (te.ks.map iM).toArray (n*te.ks.length)) (λ_ _=>ay) [] (by simpa using V)
   ⟨by rw[size_madeCells];simp[aR],yQ X n,λi j nm h=>(by cases h),λi j i' j' nm h=>(by cases h),λi y j x hy hx=>by
    obtain⟨x4,k,hk,rfl⟩:=u9 hy hx;refine⟨iM k,lW x4 hk,?_⟩
    have he:=bE.1 X k (aU hk);split
    ·cases k with
     |l e=>exact .inl ⟨rfl,rfl,rfl⟩
     |o=>cases he
     |s=>exact⟨rfl,bB _⟩
     |_=>exact⟨rfl,trivial⟩
    ·exact L7 he⟩
  rw[eR]at f;have hr:=Du (P:=P) (w:=w) (n:=n) (ps:=ps.map λ(i,x)=>(i,a.eval x)) hu hi x9 xc xd S (by rw[A5];exact U);have x0:xs.length=n:=by rw[hj];simp[aR]
  let g:aN->aN->Pl:=λi j=>match N i j with|some m=>c.P m|none=>Lf E te.ks i j
  let c':gQ:=⟨λm=>if m=nm then⟨aq,w.heap.size,0,n,n,te.ks.length⟩else c.P m,λm=>if m=nm then g else c.G m,c.K⟩
  have hP:c'.P nm=⟨aq,w.heap.size,0,n,n,te.ks.length⟩:=bm rfl;have hG:c'.G nm=g:=bm rfl;have hA:jK σ c c':=λm hm=>by
   have:m≠nm:=by rintro rfl;rcases hm with h|h;exact h hf;omega
   exact⟨bk this,bk this⟩
  have gN:∀i j,(g i j).nil=aq->∃m ob,N i j=ai m/\g i j=c.P m/\m∈L/\σ (dj m)=.o ob:=by
   intro i j C;cases hm:N i j with
   |none=>simp only[g,hm]at C;cases C
   |some m=>obtain⟨ob,x8⟩:=hL m (f.inS i j m hm);exact⟨m,ob,rfl,by simp only[g,hm],f.inS i j m hm,x8⟩
  have mK:∀i j,ex=ao->gn xs i j->(g i j).nil=aq->∃m x1 ys,N i j=ai m/\g i j=c.P m/\m∈L/\σ (dj m)=.o (.row x1 ao ys)/\(c.P m).nil=false:=by
   rintro i j r ⟨y,x,hy,hx,hl⟩ C;obtain⟨m,ob,q1,q2,q3,q4⟩:=gN i j C;obtain⟨u,_,hr⟩:=f.cell i y j x hy hx;rw[bm r,q1]at hr;cases x with
   |l e2 ys=>
    rcases hr with ⟨h,_⟩|⟨M,h,_,hg⟩
    ·cases h
    ·cases h;exact⟨m,e2,ys,q1,q2,q3,hg,by rw[<-q2];exact C⟩
   |i=>simp[uQ]at hl
   |b=>simp[uQ]at hl
   |s=>simp[uQ]at hl
  have B:∀b,b<w.heap.size->(w.alloc (.cells H el)).heap[b]? =w.heap[b]? :=λb O=>heap_alloc_old w _ b O;have mem:∀m x,(m,x)∈ER L++[(nm,Obj.row el ex xs)]->(m∈L/\x=.dead)\/(m=nm/\x=.row el ex xs):=by
   intro m x hm;rcases a_.1 hm with hm|hm
   ·unfold ER at hm;obtain⟨q,hq,h⟩:=cU.1 hm;cases h;exact .inl ⟨hq,rfl⟩
   ·rw[a7]at hm;cases hm;exact .inr ⟨rfl,rfl⟩
  have xb:oI L++(dj nm,e9.o (.row el ex xs))::dw o (.v aq [.own nm])=kD (ER L++[(nm,Obj.row el ex xs)])++dw o (.v aq [.own nm]):=by rw[CJ];unfold kD;simp
  show hN P E σ a w c o (oI L++(dj nm,e9.o (.row el ex xs))::dw o (.v aq [.own nm]));rw[xb];refine KW A hv hd (c':=c') (w':=w.alloc (.cells H el)) (v:=.slice (ai (ad w.heap.size 0)) n n) hA ?_ ?_ ?_ ?_ (λ_ h=>h) (λ_ h=>.inl h) (λb O=>jV (A.lt b O) (by simp)) (λb O _=>B b O) (by simp) rfl rfl rfl ?_ ?_ ?_
  ·intro m x hm;rcases mem m x hm with ⟨_,rfl⟩|⟨rfl,rfl⟩
   ·trivial
   ·refine⟨⟨te,h2,by rw[hP],f.sh⟩,?_,λr=> ?_⟩
    ·rw[hP,hG];refine⟨x0.symm,λC=>(by cases C),λ_=>⟨H,og.alloc w _ el,bW _,?_,?_,λi y j x hy hx=> ?_⟩⟩
     ·show n<=2^63-1;have:n*1<=n*te.ks.length:=Nat.mul_le_mul_left _ R;omega
     ·rw[f.size,x0];simp
     ·obtain⟨u,xa,Y⟩:=f.cell i y j x hy hx;refine⟨u,by simpa using xa,?_⟩
      split at Y
      ·rename_i r;rw[bm r];refine Si A (h9 r) rfl ?_ (λb O _=>B b O) Y;rw[<-f.sh y (aU hy),bJ,hx];rfl
      ·rename_i r;rw[bk r];exact Y.frame (λb O=>B b (A.lt b O)) (λ_ h=>h)
    ·rw[hP,hG];refine⟨λi j hh C _=> ?_,λi j i' j' hh x3 C x7 h7=> ?_⟩
     ·obtain⟨M,e2,ys,_,q2,_,q4,q5⟩:=mK i j r hh C;have:(c.P M).blk<w.heap.size:=Own.lt A ⟨M,_,q4,.inl ⟨q5,rfl⟩⟩;rw[q2];show(c.P M).blk≠w.heap.size;omega
     ·obtain⟨m1,e1,y1,p1,p2,_,p4,p5⟩:=mK i j r hh C;obtain⟨m2,e2,y2,r1,r2,_,r4,r5⟩:=mK i' j' r x3 x7;rw[p2,r2]at h7;have:=A.sep m1 _ m2 _ _ p4 r4 (.inl ⟨p5,rfl⟩) (.inl ⟨r5,h7⟩);subst this;exact f.inj i j i' j' m1 p1 r1
  ·intro m x b hm Q;rcases mem m x hm with ⟨_,rfl⟩|⟨rfl,rfl⟩
   ·exact Q.elim
   ·rcases Q with ⟨_,rfl⟩|⟨r,i,j,hh,C,rfl⟩
    ·rw[hP];exact⟨.inr (bW _),λhk=>by have:=A.lt _ hk;exact cO this (bg _)⟩
    ·rw[hG]at C⊢;obtain⟨M,e2,ys,_,q2,q3,q4,q5⟩:=mK i j r hh C;rw[q2];refine⟨.inl ⟨M,_,⟨.dead,bZ _ (cU.2 ⟨M,q3,rfl⟩)⟩,q4,.inl ⟨q5,rfl⟩⟩,A.kk M _ _ q4 (.inl ⟨q5,rfl⟩)⟩
  ·intro m x M x' b hm x6 Q ha;rcases mem m x hm with ⟨_,rfl⟩|⟨rfl,rfl⟩
   ·exact Q.elim
   ·rcases mem M x' x6 with ⟨_,rfl⟩|⟨rfl,rfl⟩
    ·exact ha.elim
    ·rfl
  ·intro m zs hm;rcases mem m _ hm with ⟨_,h⟩|⟨_,h⟩<;>cases h
  ·show _=kX (c'.P nm);rw[hP];rfl
  ·intro m hm;have:m=nm:=by simpa [cX,bP]using hm
   subst this;exact .inr ⟨_,bR _ (a7.2 rfl)⟩
  ·unfold execOp;rw[ho];exact iZ hr
 ·simp at h
end
end Go.FG
namespace Go.FG
section
variable {P:dx}
def me(f:TypeId)(size:aN)(base:aG Addr)(sLen sCap:aN)(s x:bS)(aR:aZ)(n:aN)(d:Sem (eN bS)):Sem bS:=
 if sLen+n<=sCap then do
  let new<-d
  if let ai a:=base then storeCells (a.add (sLen*size)) new.toList
  pure (.slice base (sLen+n) sCap)
 else do
  if((sLen+n:aN):az)>ak.max/\(aR\/(<-typeInfo f).bytes=0)then runtimePanic (.error "growslice: len out of range")
  if HZ (sLen+n) sCap*(<-typeInfo f).bytes>2^48 then(if aR then runtimePanic (.error "growslice: len out of range")else do
   if !(<-Builtin.mayShare size sLen n base x)then mark .noRoom
   unsupported (.resourceLimit "append: a slice or a string whose bytes no memory bears"))
  let h<-choose (.appendCap (sLen+n) sCap f)
  askRoom (h*(<-typeInfo f).bytes)
  let old<-fu size sLen s
  let new<-d
  let rest:=fS (<-zeroValue f).cells (h-(sLen+n))
  pure (.slice (ai (<-newRow f (old++new++rest))) (sLen+n) h)
def Ak(f:P.underlying t=ai (.slice el))(hi:P.info? el=ai inf)(hd:(∃d,P.underlying u=ai (.slice d))\/P.underlying u=ai .string)
  (hl:(pR x).run P w=.ok m w):
  (iu #[t,u] ty #[.slice base sLen sCap,x]).run P w=(me el inf.size base sLen sCap (.slice base sLen sCap) x aq m (fu inf.size m x)).run P w:=by
 have hs:(sizeOf el).run P w=.ok inf.size w:=by simp[sizeOf,typeInfo,hi]
 rcases hd with ⟨d,hd⟩|hd<;>
  (simp only[iu,ib,s_,dQ,cx,run_underlying f,run_underlying hd,bI,hs,c8,hl,dq,if_false,bH,if_true,false_or,np]
   unfold me
   simp only[np,cx,dq,if_false,false_or,c8]
   try rfl)
def Ds(r:P.underlying t=ai (.slice el))(hi:P.info? el=ai d)(hd:P.underlying u=ai (.int k))
  (s:x=.int k' (m:az)) (h1:m<=9223372036854775807) (h2:m*d.bytes<=140737488355328):
  (iu #[t,u] ty #[.slice base sLen sCap,x]).run P w=(me el d.size base sLen sCap (.slice base sLen sCap) x ao m (if m*d.size=0 then pure #[]else do pure (fS (<-zeroValue el).cells m))).run P w:=by
 have hs:(sizeOf el).run P w=.ok d.size w:=by simp[sizeOf,typeInfo,hi]
 have f:∀W,(typeInfo el).run P W=.ok d W:=λW=>by simp[typeInfo,hi]
 have hw:ak.wrap (m:az)=m:=by rw[qy];omega
 have h:¬((m:az)<0):=by omega
 have i:¬((m:az)*(d.bytes:az)>2^48):=by
  have a2:((m*d.bytes:aN):az)<=140737488355328:=by generalize m*d.bytes=q at h2;omega
  rw[V0]at a2;generalize (m:az)*(d.bytes:az)=q at a2;have:(2:az)^48=281474976710656:=by decide
  omega
 subst s;have j:(asInt (.int k' (m:az))).run P w=.ok (m:az) w:=by simp[asInt,asIntOf]
 simp only[iu,ib,s_,dQ,cx,run_underlying r,run_underlying hd,bI,hs,f,j,hw,h,i,c8,if_false,aY,dq,if_true,np,dX];unfold me;simp only[np,cx,if_true,true_or,and_true,c8,f,bI];try rfl
def Er(f:app.run P w=.ok news.toArray w)(h:sLen+m<=sCap)(d:(storeCells (a.add (sLen*size)) news).run P w=.ok () w'):
  (me el size (ai a) sLen sCap s x zs m app).run P w=.ok (.slice (ai a) (sLen+m) sCap) w':=by unfold me;rw[bm h];simp only[cx,f,bI,d,c8]
def Ep{w:cN}{el size sCap:aN}{s x:bS}{zs:aZ}{d:Sem (eN bS)}{f:aE bS}(h:d.run P w=.ok f.toArray w):
  (me el size ay 0 sCap s x zs 0 d).run P w=.ok (.slice ay 0 sCap) w:=by unfold me;rw[bm (bB _)];simp only[cx,h,bI,c8]
def Eo{w:cN}{el size sLen sCap m:aN}{base:aG Addr}{s x:bS}{zs:aZ}{j:Sem (eN bS)}{i f:aE bS}{d:TypeInfo}{z:bS}(hi:P.info? el=ai d)(N:d.zero=ai z)
  (h:¬sLen+m<=sCap) (C:sLen+m<=9223372036854775807) (t:(sLen+m)*d.bytes<=140737488355328)
  (K:(fu size sLen s).run P w.drew=.ok i.toArray w.drew) (H:j.run P w.drew=.ok f.toArray w.drew):
  (me el size base sLen sCap s x zs m j).run P w=.ok (.slice (ai (ad w.heap.size 0)) (sLen+m) (grownCap w (sLen+m) sCap el))
   (w.drew.alloc (.cells (i.toArray++f.toArray++fS z.cells (grownCap w (sLen+m) sCap el-(sLen+m))) el)):=by
 have M:∀W,(typeInfo el).run P W=.ok d W:=λW=>by simp[typeInfo,hi]
 have y:∀W,(zeroValue el).run P W=.ok z W:=λW=>by simp[zeroValue,typeInfo,hi,N]
 have A:¬(((sLen+m:aN):az)>ak.max/\(zs=ao\/d.bytes=0)):=by
  have:ak.max=9223372036854775807:=by decide
  rintro ⟨h,_⟩;omega
 have B:¬(HZ (sLen+m) sCap*d.bytes>2^48):=by
  have:=growslice_fits (need:=sLen+m) (old:=sCap) (bytes:=d.bytes) (by omega) t;have e:2^48=281474976710656:=by decide
  omega
 have u:(choose (.appendCap (sLen+m) sCap el)).run P w=.ok (grownCap w (sLen+m) sCap el) w.drew:=by rw[run_choose_drew];rfl
 have k:∀n W,(askRoom n).run P W=.ok () W:=λn W=>by simp only[askRoom];split<;>simp
 have r:∀cs,(newRow el cs).run P w.drew=.ok (ad w.heap.size 0) (w.drew.alloc (.cells cs el)):=λcs=>by simp only[newRow,newObj,cx,nu,bI,c8];rfl
 unfold me;rw[bk h];simp only[cx,M,bI,A,B,if_false,u,k,K,H,y,r,c8,np]
structure App (P:dx) (w:cN) (u:aN) (x:bS) (z:eN bS) (sz m:aN) (news:aE bS):Prop where
 h:(((∃e',P.underlying u=ai (.slice e'))\/P.underlying u=ai .string)/\(pR x).run P w=.ok m w/\(fu sz m x).run P w=.ok news.toArray w/\(fu sz m x).run P w.drew=.ok news.toArray w.drew)\/
  ((∃k,P.underlying u=ai (.int k))/\(∃k',x=.int k' (m:az))/\news=(fS z m).toList)
 len:news.length=m*sz
 one:∀v∈news,v.oneCell'=ao
structure ac1 (w w':cN) (p p':Pl) (m:aN) (news:aE bS):Prop where
 n:p'.n=p.n+m
 sz:p'.sz=p.sz
 nil:p'.nil=ao->p'.cap=0/\p.n=0/\m=0
 mem:p'.nil=aq->∃oL,og w' p'.blk oL/\p'.n<=p'.cap/\p'.cap<=maxLen/\p'.off+p'.cap*p'.sz<=oL.size/\
  (∀k u,k<p.n*p.sz->w.cell? (ad p.blk (p.off+k))=ai u->oL[p'.off+k]? =ai u)/\(∀k,k<m*p.sz->oL[p'.off+p.n*p.sz+k]? =news[k]?)
 blk:p'.nil=aq->(p.nil=aq/\p'.blk=p.blk)\/p'.blk=w.heap.size
 old:∀b,b<w.heap.size->(p'.nil=aq->b≠p'.blk)->w'.heap[b]? =w.heap[b]?
 size:w.heap.size<=w'.heap.size
 os:w'.os=w.os
 tape:w'.tape=w.tape
 output:w'.output=w.output
def uy(hu:P.underlying t=ai (.slice el))(hi:P.info? el=ai inf)(hz:inf.zero=ai z)(M:z.cells.size=p.sz)(h5:inf.size=p.sz)
  (X:p.nil=ao->p.n=0) (V:p.nil=aq->∃f,og w p.blk f/\p.n<=p.cap/\p.cap<=maxLen/\p.off+p.cap*p.sz<=f.size)
  (Q:App P w u x z.cells p.sz m news) (h1:(p.n+m)*inf.bytes<=140737488355328) (h2:p.n+m<=9223372036854775807):
  ∃p' w',(iu #[t,u] ty #[kX p,x]).run P w=.ok (kX p') w'/\ac1 w w' p p' m news:=by
 have ht:m*inf.bytes<=140737488355328:=ca (b9 _ (by omega)) h1;have h7:∀W,(zeroValue el).run P W=.ok z W:=λW=>by simp[zeroValue,typeInfo,hi,hz]
 have hv:p.n+m<=maxLen:=by simp only[maxLen];omega
 have tail:∀(base:aG Addr) (sLen sCap:aN),∃(zs:aZ) (i:Sem (eN bS)),(iu #[t,u] ty #[.slice base sLen sCap,x]).run P w=(me el p.sz base sLen sCap (.slice base sLen sCap) x zs m i).run P w/\
   i.run P w=.ok news.toArray w/\i.run P w.drew=.ok news.toArray w.drew:=by
  intro base sLen sCap
  rcases Q.h with ⟨hd,hl,hf,hh⟩|⟨⟨k,hk⟩,⟨k',x2⟩,C⟩
  ·have:=Ak (P:=P) (w:=w) (ty:=ty) hu hi hd (base:=base) (sLen:=sLen) (sCap:=sCap) hl;rw[h5]at this;exact⟨_,_,this,hf,hh⟩
  ·have:=Ds (P:=P) (w:=w) (ty:=ty) hu hi hk (base:=base) (sLen:=sLen) (sCap:=sCap) x2 (by omega) ht;rw[h5]at this;refine⟨_,_,this,?_,?_⟩
   ·rw[C];split
    ·rename_i h0;have:fS z.cells m= #[]:=A3 (by rw[size_zeroCells,M,h0]);rw[this];rfl
    ·simp only[cx,h7,bI,c8,uH]
   ·rw[C];split
    ·rename_i h0;have:fS z.cells m= #[]:=A3 (by rw[size_zeroCells,M,h0]);rw[this];rfl
    ·simp only[cx,h7,bI,c8,uH]
 have grow:∀(base:aG Addr) (sCap:aN) (d:aE bS) (zs:aZ) (i:Sem (eN bS)),¬p.n+m<=sCap->d.length=p.n*p.sz->(∀k u,k<p.n*p.sz->w.cell? (ad p.blk (p.off+k))=ai u->d[k]? =ai u)->
   (fu p.sz p.n (.slice base p.n sCap)).run P w.drew=.ok d.toArray w.drew->i.run P w.drew=.ok news.toArray w.drew->
   ∃p' w',(me el p.sz base p.n sCap (.slice base p.n sCap) x zs m i).run P w=.ok (kX p') w'/\ac1 w w' p p' m news:=by
  intro base sCap d zs i O y K hf R
  have Y:=Eo (P:=P) (w:=w) (size:=p.sz) (zs:=zs) (x:=x) (base:=base) hi hz O h2 h1 hf R
  refine⟨⟨aq,w.heap.size,0,grownCap w (p.n+m) sCap el,p.n+m,p.sz⟩,_,Y,⟨rfl,rfl,λh=>(by cases h),λ_=> ?_,λ_=>.inr rfl,λb N _=>heap_alloc_old w.drew _ b N,by simp,rfl,rfl,rfl⟩⟩
  have ho:=grownCap_ge w (p.n+m) sCap el
  refine⟨_,⟨_,_,heap_alloc_new w.drew _,λq _=>by simp⟩,ho,grownCap_le_maxLen w _ _ _ hv,?_,λk u hk A=> ?_,λk hk=> ?_⟩
  ·simp only[Array.size_append,Cr,size_zeroCells,M,y,Q.len,<-dv,bV];exact b9 _ (by omega)
  ·rw[bV,OI,Et (by simpa [y]using hk),ib];exact K k u hk A
  ·rw[bV,OI,Array.getElem?_append_right (by simp[y]),Et (by simp[y,Q.len];omega),ib];congr 1;simp[y]
 cases hq:p.nil with
 |true=>
  have C:=X hq;rw[nO hq];obtain⟨zs,i,Y,R,H⟩:=tail ay 0 0;rw[Y];by_cases hm:m=0
  ·subst hm;refine⟨⟨ao,0,0,0,0,p.sz⟩,w,Ep R,⟨by simp[C],rfl,λ_=>⟨rfl,C,rfl⟩,λh=>(by cases h),λh=>(by cases h),λ_ _ _=>rfl,bW _,rfl,rfl,rfl⟩⟩
  ·have:=grow ay 0 [] zs i (by omega) (by simp[C]) (λk u hk=>by rw[C]at hk;simp at hk) (by rw[C];exact run_firstCells_none _ _ _ _ _) H;rwa[C]at this
 |false=>
  rw[eS hq];obtain⟨f,N,hy,he,S⟩:=V hq;obtain⟨zs,i,Y,R,H⟩:=tail (ai (ad p.blk p.off)) p.n p.cap;rw[Y];have x3:p.n*p.sz<=p.cap*p.sz:=b9 _ hy;by_cases O:p.n+m<=p.cap
  ·have r:p.off+p.n*p.sz+news.length<=f.size:=by have:(p.n+m)*p.sz<=p.cap*p.sz:=b9 _ O;rw[dv]at this;rw[Q.len];omega
   have x1:=nS (P:=P) w N r Q.one;have x0:=Er (P:=P) (s:=.slice (ai (ad p.blk p.off)) p.n p.cap) (x:=x) (el:=el) (size:=p.sz) (zs:=zs) R O (by rw[Addr.ot];exact x1);refine⟨⟨aq,p.blk,p.off,p.cap,p.n+m,p.sz⟩,_,x0,⟨rfl,rfl,λh=>(by cases h),λ_=>⟨_,N.setRow (eT r),O,he,by rw[eT r];exact S,λk u hk A=> ?_,λk hk=> ?_⟩,λ_=>.inl ⟨hq,rfl⟩,λb _ h9=>setRow_other w _ b _ (h9 rfl),by simp[lJ],rfl,rfl,rfl⟩⟩
   ·show(ew f (p.off+p.n*p.sz) news)[p.off+k]? =ai u;rw[gv r,bk (by omega),<-N.cell];exact A
   ·show(ew f (p.off+p.n*p.sz) news)[p.off+p.n*p.sz+k]? =news[k]?;rw[gv r,bm (by rw[Q.len];omega)];congr 1;omega
  ·have B:∀k,k<p.n*p.sz->w.cell? (ad p.blk (p.off+k))=f[p.off+k]? :=λk _=>N.cell _;let d:=(f.toList.drop p.off).take (p.n*p.sz);have y:d.length=p.n*p.sz:=by simp only[d,dG,g_,dM];omega
   have K:∀k u,k<p.n*p.sz->w.cell? (ad p.blk (p.off+k))=ai u->d[k]? =ai u:=λk u hk A=>by rw[B k hk]at A;simp only[d,ej,bm hk,eh,da,A]
   refine grow (ai (ad p.blk p.off)) p.cap d zs i O y K ?_ H;refine run_firstCells_some w.drew p.sz p.n _ _ _ d y (λj v hj=> ?_);have U:j<p.n*p.sz:=by rw[<-y];exact(aW.1 hj).1
   simp only[d,ej,bm U,eh,da]at hj;rw[Addr.ot];have:=B j U;rw[hj]at this;simpa using this
end
end Go.FG
namespace Go.FG
def qu(B:E.ty el=ai te)(hs:p.sz=te.ks.length)(kJ:∀y∈xs,y.map CV.kd=te.ks)
  (h:jq w p xs (λ_ _ u x=>Holds E w K u x)) (s:p.nil=aq->K p.blk):Holds E w K (kX p) (.l el xs):=by
 cases hq:p.nil with
 |true=>rw[nO hq,(h.nil hq).1];exact .nl _ _ _
 |false=>
  rw[eS hq,h.n];obtain⟨f,t,m,k,_,z⟩:=h.mem hq;have d:=λi y j x (h1:xs[i]? =ai y) (h2:y[j]? =ai x)=>z i y j x h1 h2;refine .l el xs p.blk p.off p.cap te (λi j=>(f[p.off+i*p.sz+j]?).getD undef) B (by rw[<-h.n];exact m) k (s hq) kJ (λi j y x h1 h2=> ?_) (λi j y x h1 h2=> ?_)
  ·obtain⟨u,r,_⟩:=d i y j x h1 h2;rw[t.cell,<-hs,r];rfl
  ·obtain⟨u,r,A⟩:=d i y j x h1 h2;simp only[r,zf];exact A
def yP{E:gy}(h:XC E w G i j u x)(f:uQ x=ao->(G i j).nil=aq->K (G i j).blk):Holds E w K u x:=by
 cases x with
 |l e z=>obtain⟨rfl,t,r,hp,hs,kJ,d⟩:=h;exact qu r hs kJ (d.frame (λ_=>rfl) (λi j y x u hi k m=>k7 (im hp (kJ y (aU hi)) k) m)) (f rfl)
 |i=>exact k7 rfl h
 |b=>exact k7 rfl h
 |s=>exact k7 rfl h
section
variable {P:dx} {E:gy} {σ:St} {a:Act} {w:cN} {c:gQ} {o:ia} {nm:aN} {e:tF}
structure Kc (E:gy) (σ:St) (w:cN) (c:gQ) (te:TI) (v:bS) (exb:aZ) (xs:Row) (b:aE aN) (p:Pl) (g:aN->aN->Pl):Prop where
 v:v=kX p
 sz:p.sz=te.ks.length
 sh:∀y∈xs,y.map CV.kd=te.ks
 at_:jq w p xs (λi j u x=>if exb=ao then XC E w g i j u x else Holds E w c.K u x)
 mK:exb=ao->FW p g xs
 own:p.nil=aq->∃nm ob,nm∈b/\σ (dj nm)=.o ob/\fN c nm ob p.blk
 owni:exb=ao->∀i j,gn xs i j->(g i j).nil=aq->∃nm ob,nm∈b/\σ (dj nm)=.o ob/\fN c nm ob (g i j).blk
 kn:∀nm∈b,∃ob,σ (dj nm)=.o ob
def K1(σ:St)(c:gQ)(D:aE (aN×Obj))(q:aN):Prop:=c.K q\/∃n e xs ob,(n,Obj.f_ e xs)∈D/\σ (dj n)=.o ob/\fN c n ob q
structure rT (E:gy) (σ:St) (w:cN) (c:gQ) (te:TI) (b:aE aN) (exx:aZ) (ys:Row) (D:aE (aN×Obj)) (news:aE bS) (gx:aN->aN->Pl):Prop where
 sh:∀y∈ys,y.map CV.kd=te.ks
 cellX:exx=ao->∀(i:aN) (y:aE CV) (j:aN) (x:CV),ys[i]? =ai y->y[j]? =ai x->∃u:bS,news[i*te.ks.length+j]? =ai u/\XC E w gx i j u x
 cellH:exx=aq->∀(i:aN) (y:aE CV) (j:aN) (x:CV),ys[i]? =ai y->y[j]? =ai x->∃u:bS,news[i*te.ks.length+j]? =ai u/\Holds E w (K1 σ c D) u x
 own:exx=ao->∀i j,gn ys i j->(gx i j).nil=aq->∃n ob,(n,Obj.dead)∈D/\σ (dj n)=.o ob/\fN c n ob (gx i j).blk
 one:exx=ao->∀i j i' j',gn ys i j->gn ys i' j'->(gx i j).nil=aq->(gx i' j').nil=aq->(gx i j).blk=(gx i' j').blk->i=i'/\j=j'
 D:∀n x,(n,x)∈D->n∉b/\(∃ob,σ (dj n)=.o ob)/\(x=.dead\/(exx=aq/\∃e xs,x=.f_ e xs/\Holds E w (K1 σ c D) (kX (c.P n)) (.l e xs)/\(c.P n).n=xs.length/\∃ti,E.ty e=ai ti/\(c.P n).sz=ti.ks.length))
def E_(A:Ok E σ w c)(xn:fw E σ a w c)(hd:∀d,o.dst=ai d->d<a.tmps.size)(ht:E.ty el=ai te)(hf:σ (dj r)=.jW)(xq:r<900000000)
  (Q:Kc E σ w c te v h5 xs b p g) (hM:rT E σ w c te b hb ys D2 xc gx) (U:ac1 w w' p p' ys.length xc) (hr:(execOp a.eval o).run P w=.ok (.value (kX p')) w'):
  hN P E σ a w c o (oI b++(kD D2++[(dj r,e9.o (.row el (h5&&hb) (xs++ys)))])++dw o (.v aq [.own r])):=by
 have x2:(h5&&hb)=ao->h5=ao/\hb=true:=λh=>by simpa using h
 generalize x1:(h5&&hb)=t at x2;let D:aE (aN×Obj):=ER b++(D2++[(r,.row el t (xs++ys))])
 have hD:oI b++(kD D2++[(dj r,e9.o (.row el t (xs++ys)))])=kD D:=by rw[CJ];simp only[D,kD,cT,fD,wb]
 rw[hD];have mem:∀m x,(m,x)∈D->(m∈b/\x=.dead)\/(m,x)∈D2\/(m=r/\x=.row el t (xs++ys)):=by
  intro m x hm;rcases a_.1 hm with hm|hm
  ·obtain⟨q,hq,h⟩:=cU.1 hm;cases h;exact .inl ⟨hq,rfl⟩
  ·rcases a_.1 hm with hm|hm
   ·exact .inr (.inl hm)
   ·rw[a7]at hm;cases hm;exact .inr (.inr ⟨rfl,rfl⟩)
 have R:∀m,m∈b->u_ D m:=λm hm=>⟨.dead,bZ _ (cU.2 ⟨m,hm,rfl⟩)⟩
 have h7:∀m x,(m,x)∈D2->u_ D m:=λm x hm=>⟨x,bR _ (bZ _ hm)⟩
 have xe:u_ D r:=⟨_,bR _ (bR _ (a7.2 rfl))⟩
 have F1:p'.nil=aq->p'.blk=w.heap.size\/∃m ob,m∈b/\σ (dj m)=.o ob/\fN c m ob p'.blk:=by
  intro f;rcases U.blk f with ⟨h1,h2⟩|h
  ·rw[h2];exact .inr (Q.own h1)
  ·exact .inl h
 have x6:∀n x ob q,(n,x)∈D2->σ (dj n)=.o ob->fN c n ob q->¬(p'.nil=aq/\q=p'.blk):=by
  rintro n x ob q s x7 z ⟨f,rfl⟩;have xj:=Own.lt A ⟨n,ob,x7,z⟩;rcases F1 f with h|⟨m,ob',h1,h2,h3⟩
  ·omega
  ·have:=A.sep n ob m ob' _ x7 h2 z h3;subst this;exact(hM.D n x s).1 h1
 have xk:∀q,c.K q->¬(p'.nil=aq/\q=p'.blk):=by
  rintro q hq ⟨f,rfl⟩;have xj:=A.lt _ hq;rcases F1 f with h|⟨m,ob',h1,h2,h3⟩
  ·omega
  ·exact A.kk m ob' _ h2 h3 hq
 have xd:h5=ao->∀i j,gn xs i j->(g i j).nil=aq->¬(p'.nil=aq/\(g i j).blk=p'.blk):=by
  rintro s i j M f ⟨k,B⟩;obtain⟨m,ob,q1,C,N⟩:=Q.owni s i j M f;have xj:=Own.lt A ⟨m,ob,C,N⟩;rcases U.blk k with ⟨h1,h2⟩|h
  ·exact(Q.mK s).out i j M f h1 (B.trans h2)
  ·omega
 let K':aN->Prop:=λq=>c.K q\/(t=aq/\kh (u_ D) σ c q/\¬(p'.nil=aq/\q=p'.blk))
 have x8:∀q,K' q->q<w.heap.size:=by
  rintro q (h|⟨_,h,_⟩)
  ·exact A.lt q h
  ·exact Own.lt A h.own
 have x9:∀q,K' q->¬(p'.nil=aq/\q=p'.blk):=by
  rintro q (h|⟨_,_,h⟩)
  ·exact xk q h
  ·exact h
 have F3:∀q,K' q->w'.heap[q]? =w.heap[q]? :=λq hq=>U.old q (x8 q hq) (λf B=>x9 q hq ⟨f,B⟩);have F4:t=aq->∀q,K1 σ c D2 q->K' q:=by
  rintro H q (h|⟨n,e',zs,ob,h1,h2,h3⟩)
  ·exact .inl h
  ·exact .inr ⟨H,⟨n,ob,h7 n _ h1,h2,h3⟩,x6 n _ ob q h1 h2 h3⟩
 have F5:t=aq->h5=ao->∀i j,gn xs i j->(g i j).nil=aq->K' (g i j).blk:=by intro H s i j M f;obtain⟨m,ob,q1,C,N⟩:=Q.owni s i j M f;exact .inr ⟨H,⟨m,ob,R m q1,C,N⟩,xd s i j M f⟩
 have F6:t=aq->hb=ao->∀i j,gn ys i j->(gx i j).nil=aq->K' (gx i j).blk:=by intro H s i j M f;obtain⟨n,ob,q1,C,N⟩:=hM.own s i j M f;exact .inr ⟨H,⟨n,ob,h7 n _ q1,C,N⟩,x6 n _ ob _ q1 C N⟩
 let G':aN->aN->Pl:=λi j=>if i<xs.length then g i j else gx (i-xs.length) j
 have hv:∀i j,i<xs.length->G' i j=g i j:=λi j h=>bm h;have hz:∀i j,¬i<xs.length->G' i j=gx (i-xs.length) j:=λi j h=>bk h;have Y:∀i j,i<xs.length->gn (xs++ys) i j->gn xs i j:=by rintro i j hi ⟨y,x,h1,h2,h3⟩;rw[dz hi]at h1;exact⟨y,x,h1,h2,h3⟩
 have ha:∀i j,¬i<xs.length->gn (xs++ys) i j->gn ys (i-xs.length) j:=by rintro i j hi ⟨y,x,h1,h2,h3⟩;rw[de (by omega)]at h1;exact⟨y,x,h1,h2,h3⟩
 let c':gQ:=⟨λm=>if m=r then p' else c.P m,λm=>if m=r then G' else c.G m,K'⟩
 have hP:c'.P r=p':=bm rfl;have hG:c'.G r=G':=bm rfl;have xg:jK σ c c':=λm hm=>by
  have:m≠r:=by rintro rfl;rcases hm with h|h;exact h hf;omega
  exact⟨bk this,bk this⟩
 have xb:t=ao->∀i j,gn (xs++ys) i j->(G' i j).nil=aq->¬(p'.nil=aq/\(G' i j).blk=p'.blk)/\kh (u_ D) σ c (G' i j).blk:=by
  intro H i j M f;obtain⟨r1,r2⟩:=x2 H;by_cases hi:i<xs.length
  ·rw[hv i j hi]at f⊢;obtain⟨m,ob,q1,C,N⟩:=Q.owni r1 i j (Y i j hi M) f;exact⟨xd r1 i j (Y i j hi M) f,m,ob,R m q1,C,N⟩
  ·rw[hz i j hi]at f⊢;obtain⟨n,ob,q1,C,N⟩:=hM.own r2 _ j (ha i j hi M) f;exact⟨x6 n _ ob _ q1 C N,n,ob,h7 n _ q1,C,N⟩
 have xa:∀y∈xs++ys,y.map CV.kd=te.ks:=λy hy=>(a_.1 hy).elim (Q.sh y) (hM.sh y);refine KW A xn hd (D:=D) (c':=c') (w':=w') xg ?_ ?_ ?_ ?_ (λq h=>.inl h) ?_ (λq hq=>jV (x8 q hq) U.size) ?_ U.size U.os U.tape U.output ?_ ?_ hr
 ·intro m x hm;rcases mem m x hm with ⟨_,rfl⟩|h9|⟨rfl,rfl⟩
  ·trivial
  ·obtain⟨_,⟨ob,x7⟩,s⟩:=hM.D m x h9;rcases s with rfl|⟨V,e',zs,rfl,q1,C,N⟩
   ·trivial
   ·have H:t=false:=by rw[<-x1,V];simp
    obtain⟨a1,a2⟩:=xg m (.inl (by rw[x7];simp));show Holds E w' K' (kX (c'.P m)) _/\(c'.P m).n=_/\_;rw[a1];exact⟨q1.frame (λq hq=>F3 q (F4 H q hq)) (F4 H),C,N⟩
  ·refine⟨⟨te,ht,by rw[hP,U.sz];exact Q.sz,xa⟩,?_,λH=> ?_⟩
   ·rw[hP,hG];refine⟨by rw[U.n,Q.at_.n,bU],λf=> ?_,λf=> ?_⟩
    ·obtain⟨n1,n2,n3⟩:=U.nil f;refine⟨?_,n1⟩
     have e1:xs.length=0:=by rw[<-Q.at_.n];exact n2
     rw[eU e1,eU n3];rfl
    ·obtain⟨x5,m1,m2,m3,m4,m5,m6⟩:=U.mem f;refine⟨x5,m1,m2,m3,m4,λi y j x hy s=> ?_⟩
     have hj:j<te.ks.length:=by rw[<-xa y (aU hy),bK];exact(aW.1 s).1
     by_cases hi:i<xs.length
     ·rw[dz hi]at hy;have xf:p.nil=false:=by
       cases hq:p.nil with
       |false=>rfl
       |true=>have:=(Q.at_.nil hq).1;subst this;simp at hi
      obtain⟨xp,k1,k2,k3,k4,k5⟩:=Q.at_.mem xf;obtain⟨u,hu,H⟩:=k5 i y j x hy s;have hk:i*p.sz+j<p.n*p.sz:=by have:(i+1)*p.sz<=p.n*p.sz:=b9 _ (by rw[Q.at_.n];exact hi);rw[dv]at this;rw[Q.sz]at this⊢;omega
      refine⟨u,?_,?_⟩
      ·rw[U.sz,kc];refine m5 _ u hk ?_;rw[k1.cell,<-kc];exact hu
      ·cases ho:h5 with
       |true=>
        rw[ho,bm rfl]at H;cases S:t with
        |true=>
         rw[bm rfl];have x4:XC E w' g i j u x:=H.frame (λhl k=>U.old _ (by obtain⟨m,ob,_,C,N⟩:=Q.owni ho i j ⟨y,x,hy,s,hl⟩ k;exact Own.lt A ⟨m,ob,C,N⟩) (λx3 B=>xd ho i j ⟨y,x,hy,s,hl⟩ k ⟨x3,B⟩));cases x with
         |l e1 z1=>simpa only[XC,hv i j hi]using x4
         |_=>exact x4
        |false=>rw[bk (by simp)];have:=yP (K:=K') H (λhl k=>F5 S ho i j ⟨y,x,hy,s,hl⟩ k);exact this.frame F3 (λ_ h=>h)
       |false=>
        have S:t=false:=by rw[<-x1,ho];rfl
        rw[ho,bk (by simp)]at H;rw[S,bk (by simp)];exact H.frame (λq hq=>F3 q (.inl hq)) (λq hq=>.inl hq)
     ·rw[de (by omega)]at hy;have xo:i-xs.length<ys.length:=(aW.1 hy).1;have hk:(i-xs.length)*p.sz+j<ys.length*p.sz:=by have:(i-xs.length+1)*p.sz<=ys.length*p.sz:=b9 _ xo;rw[dv]at this;rw[Q.sz]at this⊢;omega
      have xi:p'.off+i*p'.sz+j=p'.off+p.n*p.sz+((i-xs.length)*p.sz+j):=by
       rw[U.sz,Q.at_.n];have:i*p.sz=xs.length*p.sz+(i-xs.length)*p.sz:=by rw[<-dv];congr 1;omega
       omega
      have got:∀u,xc[(i-xs.length)*te.ks.length+j]? =ai u->x5[p'.off+i*p'.sz+j]? =ai u:=λu hu=>by rw[xi,m6 _ hk,Q.sz];exact hu
      cases V:hb with
      |true=>
       obtain⟨u,hu,hX⟩:=hM.cellX V _ y j x hy s;refine⟨u,got u hu,?_⟩
       cases S:t with
       |true=>
        rw[bm rfl];have x4:XC E w' gx (i-xs.length) j u x:=hX.frame (λhl k=>U.old _ (by obtain⟨n,ob,_,C,N⟩:=hM.own V _ j ⟨y,x,hy,s,hl⟩ k;exact Own.lt A ⟨n,ob,C,N⟩) (λx3 B=>by obtain⟨n,ob,q1,C,N⟩:=hM.own V _ j ⟨y,x,hy,s,hl⟩ k;exact x6 n _ ob _ q1 C N ⟨x3,B⟩));cases x with
        |l e1 z1=>simpa only[XC,hz i j hi]using x4
        |_=>exact x4
       |false=>rw[bk (by simp)];have:=yP (K:=K') hX (λhl k=>F6 S V _ j ⟨y,x,hy,s,hl⟩ k);exact this.frame F3 (λ_ h=>h)
      |false=>
       have S:t=false:=by rw[<-x1,V];simp
       obtain⟨u,hu,hH⟩:=hM.cellH V _ y j x hy s;refine⟨u,got u hu,?_⟩
       rw[S,bk (by simp)];exact hH.frame (λq hq=>F3 q (F4 S q hq)) (F4 S)
   ·rw[hP,hG];refine⟨λi j M f xf B=>(xb H i j M f).1 ⟨xf,B⟩,λi j X j' M hc f k B=> ?_⟩
    obtain⟨r1,r2⟩:=x2 H;have x0:∀i j X j',i<xs.length->¬X<xs.length->gn (xs++ys) i j->gn (xs++ys) X j'->(G' i j).nil=aq->(G' X j').nil=aq->(G' i j).blk≠(G' X j').blk:=by intro i j X j' hi O M hc f k B;rw[hv i j hi]at f B;rw[hz X j' O]at k B;obtain⟨m,ob,q1,C,N⟩:=Q.owni r1 i j (Y i j hi M) f;obtain⟨n,ob',s1,s2,s3⟩:=hM.own r2 _ j' (ha X j' O hc) k;rw[B]at N;have:=A.sep m ob n ob' _ C s2 N s3;subst this;exact(hM.D m _ s1).1 q1
    by_cases hi:i<xs.length
    ·by_cases O:X<xs.length
     ·rw[hv i j hi]at f B;rw[hv X j' O]at k B;exact(Q.mK r1).one i j X j' (Y i j hi M) (Y X j' O hc) f k B
     ·exact cO B (x0 i j X j' hi O M hc f k)
    ·by_cases O:X<xs.length
     ·exact cO B.symm (x0 X j' i j O hi hc M k f)
     ·rw[hz i j hi]at f B;rw[hz X j' O]at k B;have:=hM.one r2 _ j _ j' (ha i j hi M) (ha X j' O hc) f k B;exact⟨by omega,this.2⟩
 ·intro m x q hm z;rcases mem m x hm with ⟨_,rfl⟩|h9|⟨rfl,rfl⟩
  ·exact z.elim
  ·obtain⟨_,_,s⟩:=hM.D m x h9;rcases s with rfl|⟨_,e',zs,rfl,_⟩
   ·exact z.elim
   ·exact z.elim
  ·rcases z with ⟨f,rfl⟩|⟨H,i,j,M,f,rfl⟩
   ·rw[hP]at f⊢;refine⟨?_,λhk=>x9 _ hk ⟨f,rfl⟩⟩
    rcases F1 f with h|⟨m,ob,h1,h2,h3⟩
    ·right;omega
    ·exact .inl ⟨m,ob,R m h1,h2,h3⟩
   ·rw[hG]at f⊢;obtain⟨q1,C⟩:=xb H i j M f;refine⟨.inl C,?_⟩
    rintro (h|⟨h,_⟩)
    ·exact A.Hk C.own h
    ·rw[H]at h;cases h
 ·intro m x m' x' q hm xl z xh;have only:∀m x,(m,x)∈D->fN c' m x q->m=r:=by
   intro m x hm z;rcases mem m x hm with ⟨_,rfl⟩|h9|⟨rfl,rfl⟩
   ·exact z.elim
   ·obtain⟨_,_,s⟩:=hM.D m x h9;rcases s with rfl|⟨_,e',zs,rfl,_⟩
    ·exact z.elim
    ·exact z.elim
   ·rfl
  rw[only m x hm z,only m' x' xl xh]
 ·intro m zs hm;rcases mem m _ hm with ⟨_,h⟩|h9|⟨_,h⟩
  ·cases h
  ·obtain⟨_,_,s⟩:=hM.D m _ h9;rcases s with h|⟨_,e',zs,h,_⟩<;>cases h
  ·cases h
 ·rintro q (h|⟨_,h,_⟩)
  ·exact .inl h
  ·exact .inr (.inl h)
 ·intro q hq xm;refine U.old q hq (λf B=>xm ?_);rcases F1 f with h|⟨m,ob,h1,h2,h3⟩
  ·omega
  ·rw[B];exact⟨m,ob,R m h1,h2,h3⟩
 ·show _=kX (c'.P r);rw[hP]
 ·intro m hm;have:m=r:=by simpa [cX,bP]using hm
  subst this;exact .inr xe
end
end Go.FG
