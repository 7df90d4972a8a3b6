/- An evaluator for the part of the language that this program uses, proved sound over the model: states told as values and lists; what an evaluation tells, the call does. No condition. -/
import Derived.Calls
import Derived.Orders
import Derived.Below
import Derived.Laws.AppendOwn
import Derived.Laws.Slices
import Derived.Laws.StructEq
import Derived.Laws.Tables
import Derived.Laws.MakeOwn
import Derived.Laws.IdiomStrings
import Derived.Laws.BytesArg
import Derived.Laws.NewFold
import Derived.SizedLaws
import Derived.Carry
import Derived.ProofKit
import Derived.KernelRfl
import Derived.Laws.Strings
import Derived.Sort.Grow
import Derived.Deep.Draws
set_option linter.unusedVariables false
set_option linter.unusedSimpArgs false
set_option maxRecDepth 100000
set_option autoImplicit true
set_option relaxedAutoImplicit true
open Array renaming getElem?_eq_some_iff->dr,getD_eq_getD_getElem?->eu,getElem?_setIfInBounds->nN,toArray_toList->tu,getElem?_toList->cR,ext'->sb,length_toList->dn,toList_map->zm,getElem?_map->Mm,getElem?_extract->dS,eq_empty_of_size_eq_zero->zl,append_assoc->Ml,getElem?_append_left->CW
open BitVec renaming ofInt->di
open Bool renaming false->aq,true->ao,false_eq_true->db,and_eq_true->aM,not_eq_true'->dt,and_assoc->nc,or_eq_false_iff->h_,not_false->bG,not_true->aZ
open ByteArray renaming size_extract->wV,size_append->dA,empty->Gf,size->bC
open Decidable renaming decide->ah
open Go renaming IntKind->sn,World->cB,Value->bP,Operand->eQ,Oper->gK,Program->de
open Go.Act renaming put->S1,eval->Gt
open Go.Builtin renaming len_->vp,max2->C1,min2->C2,clear_->oe,zeroCells->fC,nextslicecap->Gg,firstCells->e7,lenOf->o5,append_->gW
open Go.Instr renaming loadAt->xC,sureAddr->tZ,storeAt->TM,fieldAt->TK,indexAt->TL,sliceBound->qx,sliceBounds->my,sliceAt->pY,fill->o6,buildSlice->yV
open Go.IntKind renaming i64->ak,wrap_i64->pG
open Go.Op renaming bytesLess->b7
open Go.Oper renaming wp->Mq
open Go.Region renaming binds->me
open Go.Result renaming andThen_ok->bH
open Go.Sem renaming run_bind->cg,run_pure->cU,run->mI,run_ite->mD
open Go.World renaming cell?->Mr,frozen?->WV,cell?_of_block->uz,setRow->iX
open Int renaming toNat_natCast->dG,natCast_mul->TN
open List renaming mem_cons_of_mem->cu,mem_cons->cm,mem_cons_self->cD,mem_flatMap->bM,mem_of_getElem?->aU,append_nil->cZ,length_nil->jz,getElem?_toArray->gP,append_assoc->ca,getElem?_append_left->dj,getElem?_take->dP,getElem?_append_right->cY,getElem?_drop->dO,length_eq_one_iff->gE,getElem?_cons_succ->dD,getD->dZ,getElem?_map->bI,getElem_mem->bw,mem_map->cN,all_eq_true->bz,range->cT,getElem?_range->uT,getElem?_eq_none->kD,getElem?_eq_some_iff->aW,mem_of_mem_drop->kV,mem_of_mem_take->ia,getElem?_of_mem->bX,map_toArray->Cw,map_cons->e9,map_nil->uU,ext_getElem?->S6,eq_nil_of_length_eq_zero->eO,mem_append->bc,length_cons->bR,foldl_cons->oF,map_map->jk,map_id->Mu,map_congr_left->NM,size_toArray->AQ,length_map->bJ,getD_eq_getElem?_getD->dK,getElem?_set->NK,all_cons->jc,head?_drop->Xm,length_take->du,length_drop->gz,length_singleton->bu,mem_append_left->bY,mem_append_right->bS,nodup_append->ej,length_set->b9,mem_or_eq_of_mem_set->jl,nodup_cons->j_,nil_append->eJ,mem_singleton->a_,getElem?_cons_zero->rQ
open List.cons renaming injEq->Xl
open Nat renaming beq->bK,blt->pK,ble->eS,le_refl->bT,le_trans->cf,lt_of_lt_of_le->iB,eq_of_beq_eq_true->aX,add_zero->zQ,add_assoc->jL,le_of_ble_eq_true->cM,add_mul->dc,zero_le->bA,mul_le_mul_right->b5,eq_zero_or_pos->Ci,div_lt_iff_lt_mul->wX,mod_lt->Ea,div_add_mod->HY,mul_comm->Gv,zero_add->bV,lt_or_gt_of_ne->NP,add_comm->iL,sub_self->pf,sub_zero->og,lt_irrefl->bk
open Option renaming some->ai,none->aj,map_some->hJ,getD_some->xE
open Option.some renaming inj->aJ,injEq->jf
open Prod.mk renaming inj->bU,injEq->iS
open UInt8 renaming ofNat->ar
open _root_ renaming Nat->aN,Int->ay,Bool->aY,ByteArray->au,List->aE,Option->aA,Array->eF,if_pos->bm,if_neg->bh,absurd->cJ,cond_true->aw,cond_false->ax,decide_eq_true_eq->bf,of_decide_eq_true->cL,congrArg->ic
namespace Go.FG
inductive Ck where
 |i (k:sn)|b|s|l (e:aN)|o
inductive CV where
 |i (k:sn) (n:ay)|b (x:aY)|s (x:au)|l (e:aN) (xs:aE (aE CV))
abbrev Row:=aE (aE CV)
def CV.kd:CV->Ck
 |.i k _=>.i k|.b _=>.b|.s _=>.s|.l e _=>.l e
def bN:CV->ay|.i _ n=>n|_=>0
def cvB:CV->aY|.b x=>x|_=>aq
def br:CV->au|.s x=>x|_=>⟨#[]⟩
def iH:CV->Row|.l _ xs=>xs|_=>[]
def av(xs:Row)(i j:aN):CV:=(xs.getD i []).getD j (.b aq)
inductive AV where
 |i (k:sn) (n:ay)|b (x:aY)|s (x:au)
 |sh (e:aN) (xs:Row)
 |nl
 |own (nm:aN)
 |vw (nm lo hi:aN)
 |bp (nm j:aN)
 |rp (nm i j:aN)
 |sp (e:aN) (xs:Row) (i j:aN)
 |lR (nm i j:aN)
 |ip (nm i j i2 j2:aN)
 |iv (nm i j lo hi:aN)
 |fn (f:aN) (ajF:aE (aE CV))
 |fp (xs:aE CV) (j:aN)
inductive SV where
 |v (agg:aY) (xs:aE AV)|jS (xs:aE (aY×aE AV))|un
inductive Obj where
 |box (xs:aE AV)|nI (xs:aE CV)|row (e:aN) (ex:aY) (xs:Row)|fL (e:aN) (xs:Row)|dead
inductive eW where
 |v (x:SV)|o (x:Obj)|jw
def vr(n:aN):aY:=bK (n%1000) 999&&pK n 900000000
abbrev St:=aN->eW
def ox(s:St)(k:aN)(c:eW):St:=λn=>bif bK n k then c else s n
def wr(s:St):aE (aN×eW)->St
 |[]=>s
 |(k,c)::r=>wr (ox s k c) r
def pW(n:aN):aN:=2*n
def c6(n:aN):aN:=2*n+1
inductive Rd (α:Type) where
 |ret (a:α)|fail|get (k:aN) (f:eW->Rd α)
def Rd.bind{α β:Type}:Rd α->(α->Rd β)->Rd β
 |.ret a,f=>f a
 |.fail,_=>.fail
 |.get k g,f=>.get k λc=>(g c).bind f
def Rd.run{α:Type}:Rd α->St->aE aN->aA (α×aE aN)
 |.ret a,_,l=>ai (a,l)
 |.fail,_,_=>aj
 |.get k f,s,l=>(f (s k)).run s (k::l)
structure TI where
 agg:aY
 ks:aE Ck
 bytes:aN
inductive AA where
 |i (k:sn) (n:ay)|b (x:aY)|s (x:au)|sh (e:aN) (xs:Row)|nl
 |ow (e:aN) (ex:aY) (xs:Row)|kp (xs:Row)|fn (f:aN) (ajF:aE (aE CV))
inductive gg where
 |v (agg:aY) (xs:aE AA)|pt (xs:aE AA)|fb (xs:aE CV)
structure iQ where
 rs:aE gg
 outs:aE (aE AA)
structure zq where
 f:cB->(aN->Prop)->Prop
 fr:∀{w w':cB} {K K':aN->Prop},f w K->(∀b,K b->w'.heap[b]? =w.heap[b]?)->(∀b,K b->K' b)->f w' K'
def zq.jw:zq:=⟨λ_ _=>True,λ_ _ _=>trivial⟩
structure Tab where
 ty:aN->aA TI
 fo:aN->aN->aA (aN×aN)
 eqs:aE aN
 Tk:aN->aN->aY:=λ_ _=>aq
 gp:zq:=.jw
inductive Om where
 |nat|own (e:aN)|sh (e:aN)
structure fW extends Tab where
 call:aN->aE gg->aA (aY×iQ)
 om:aN->aN->Om
 mode:aN->aN->aY
 keep:aN->aE aN
 tk:aN->aY
instance:Coe fW Tab:=⟨fW.toTab⟩
structure sj where
 cond:aY
 ws:aE (aN×eW)
def ma(n:aN):aE aN->aY
 |[]=>aq|m::r=>bK n m||ma n r
def cst:bP->SV
 |.int k n=>.v aq [.i k n]|.bool x=>.v aq [.b x]|.string x=>bif eS x.size 4611686018427387904 then .v aq [.s x]else .un
 |.slice aj 0 0=>.v aq [.nl]
 |_=>.un
def FF(x:eQ):Rd SV:=
 match x with
 |.tmp t=>.get (pW t) λ|.v x=>.ret x|_=>.ret .un
 |.const v=>.ret (cst v)
 |.func f=>.ret (.v aq [.fn f []])
 |.global _=>.fail
def i6(nm:aN):Rd Obj:=.get (c6 nm) λ|.o x=>.ret x|_=>.fail
def fresh(nm:aN):Rd Unit:=.get (c6 nm) λ|.jw=>bif eS nm 899999999 then .ret ()else .fail|_=>.fail
def rk(x:eQ):Rd AV:=(FF x).bind λ|.v aq [a]=>.ret a|_=>.fail
def BF(x:eQ):Rd (sn×ay):=(rk x).bind λ|.i k n=>.ret (k,n)|_=>.fail
def dw(o:gK)(v:SV):aE (aN×eW):=match o.dst with|some d=>[(pW d,.v v)]|none=>[]
def val(o:gK)(v:SV):Rd sj:=.ret ⟨ao,dw o v⟩
def yR(o:gK)(v:AV):Rd sj:=val o (.v aq [v])
def JQ(o:gK)(c:aY)(v:AV):Rd sj:=.ret ⟨c,dw o (.v aq [v])⟩
def rD(E:fW)(t:aN):Rd TI:=match E.ty t with|some i=>.ret i|none=>.fail
def py(E:fW)(t:aN):Rd Ck:=(rD E t).bind λti=>match ti.agg,ti.ks with|false,[k]=>.ret k|_,_=>.fail
def Cd:Ck->AV
 |.i k=>.i k 0|.b=>.b aq|.s=>.s ⟨#[]⟩|.l _=>.nl|.o=>.nl
def yT:Ck->CV
 |.i k=>.i k 0|.b=>.b aq|.s=>.s ⟨#[]⟩|.l e=>.l e []|.o=>.b aq
def Jk(ks:aE Ck):aY:=ks.all λ|.o=>aq|_=>ao
def dec:Ck->CV->AV
 |.i k,x=>.i k (bN x)|.b,x=>.b (cvB x)|.s,x=>.s (br x)|.l e,x=>.sh e (iH x)|.o,_=>.nl
def um(xs:Row)(i:aN):aN->aE Ck->aE AV
 |_,[]=>[]
 |j,k::ks=>dec k (av xs i j)::um xs i (j+1) ks
def zF(nm:aN)(xs:Row)(i:aN):aN->aE Ck->aE AV
 |_,[]=>[]
 |j,.l _::ks=>.lR nm i j::zF nm xs i (j+1) ks
 |j,k::ks=>dec k (av xs i j)::zF nm xs i (j+1) ks
def Wa:CV->AV
 |.i k n=>.i k n|.b x=>.b x|.s x=>.s x|.l e xs=>.sh e xs
def hS{α:Type}(xs:aE α)(j:aN)(d:aE α):aE α:=xs.take j++d++xs.drop (j+d.length)
def dV(xs:Row)(i j:aN)(d:aE CV):Row:=xs.set i (hS (xs.getD i []) j d)
def anj(agg:aY)(xs:aE AV):SV:=.v agg xs
def dR(xs:Row)(lo hi:aN):Row:=(xs.drop lo).take (hi-lo)
def plain(ks:aE Ck):aY:=ks.all λ|.i _=>ao|.b=>ao|.s=>ao|_=>aq
def ckB:Ck->Ck->aY
 |.i a,.i b=>ah (a=b)|.b,.b=>ao|.s,.s=>ao|.l a,.l b=>bK a b|.o,.o=>ao|_,_=>aq
def pR:aE Ck->aE Ck->aY
 |[],[]=>ao|x::l,y::r=>ckB x y&&pR l r|_,_=>aq
def G0(ex:aY)(k:Ck)(a:AV):Rd (CV×aE (aN×eW)):=
 match k,a with
 |.i k,.i k' n=>if k=k' then .ret (.i k n,[])else .fail
 |.b,.b x=>.ret (.b x,[])
 |.s,.s x=>.ret (.s x,[])
 |.l e,.nl=>.ret (.l e [],[])
 |.l e,.sh d xs=>bif bK e d&& !ex then .ret (.l e xs,[])else .fail
 |.l e,.own nm=>(i6 nm).bind λ
  |.row d f xs=>bif bK e d&&f then(bif ex then .ret (.l e xs,[(c6 nm,.o .dead)])else .fail)else .fail
  |.fL d xs=>bif bK e d&& !ex then .ret (.l e xs,[])else .fail
  |_=>.fail
 |_,_=>.fail
def yr(ex:aY):aE Ck->aE AV->Rd (aE CV×aE (aN×eW))
 |[],[]=>.ret ([],[])
 |k::ks,a::r=>(G0 ex k a).bind λ(c,w)=>(yr ex ks r).bind λ(cs,ws)=>.ret (c::cs,w++ws)
 |_,_=>.fail
def aeH:aE AV->aY
 |[]=>ao
 |.sh _ _::_=>aq
 |_::r=>aeH r
end Go.FG
namespace Go.FG
def aaV(op:BinOp)(k:sn)(a b:ay):aA (aY×AV):=
 match op with
 |.add=>ai (ao,.i k (k.wrap (a+b)))
 |.sub=>ai (ao,.i k (k.wrap (a-b)))
 |.mul=>ai (ao,.i k (k.wrap (a*b)))
 |.quo=>ai (!(b==0),.i k (k.wrap (a.tdiv b)))
 |.rem=>ai (!(b==0),.i k (a.tmod b))
 |.and=>ai (ao,.i k (k.wrap (di k.bits a&&&di k.bits b).toNat))
 |.or=>ai (ao,.i k (k.wrap (di k.bits a|||BitVec.ofInt k.bits b).toNat))
 |.xor=>ai (ao,.i k (k.wrap (di k.bits a^^^di k.bits b).toNat))
 |.eql=>ai (ao,.b (a==b))
 |.neq=>ai (ao,.b (a !=b))
 |.lss=>ai (ao,.b (ah (a<b)))
 |.leq=>ai (ao,.b (ah (a<=b)))
 |.gtr=>ai (ao,.b (ah (a>b)))
 |.geq=>ai (ao,.b (ah (a≥b)))
 |_=>aj
def aaX(op:BinOp)(a b:au):aA (aY×AV):=
 match op with
 |.add=>ai (ah (a.size+b.size<=4611686018427387904),.s (a++b))
 |.eql=>ai (ao,.b (a.toList==b.toList))
 |.neq=>ai (ao,.b (!(a.toList==b.toList)))
 |.lss=>ai (ao,.b (b7 a.toList b.toList))
 |.leq=>ai (ao,.b (b7 a.toList b.toList||a.toList==b.toList))
 |.gtr=>ai (ao,.b (!(b7 a.toList b.toList||a.toList==b.toList)))
 |.geq=>ai (ao,.b (!(b7 a.toList b.toList)))
 |_=>aj
def Ui:aE AV->aE AV->aA aY
 |[],[]=>ai ao
 |.i k a::l,.i k' b::r=>if k=k' then(match Ui l r with|some t=>ai ((a==b)&&t)|none=>aj)else aj
 |.b a::l,.b b::r=>match Ui l r with|some t=>ai ((a==b)&&t)|none=>aj
 |.s a::l,.s b::r=>match Ui l r with|some t=>ai ((a.toList==b.toList)&&t)|none=>aj
 |_,_=>aj
def Fs:AV->Ck
 |.i k _=>.i k|.b _=>.b|.s _=>.s|_=>.o
def IA(op:BinOp)(k:Ck):AV->AV->aA (aY×AV)
 |.i k a,.i k' b=>if k=k' then aaV op k a b else aj
 |.s a,.s b=>aaX op a b
 |.b a,.b b=>match op,k with|.eql,.b=>ai (ao,.b (a==b))|.neq,.b=>ai (ao,.b (!(a==b)))|_,_=>aj
 |_,_=>aj
def shV(op:BinOp):AV->AV->aA (aY×AV)
 |.i k a,.i _ b=>match op with
  |.shl=>ai (ah (0<=b),.i k (k.wrap (a*2^(min b.toNat k.bits))))
  |.shr=>ai (ah (0<=b),.i k (a.fdiv (2^(min b.toNat k.bits))))
  |_=>aj
 |_,_=>aj
def MY:BinOp->aY|.shl=>ao|.shr=>ao|_=>aq
def isEq:BinOp->aY|.eql=>ao|.neq=>ao|_=>aq
def Rv{α:Type}:aA α->Rd α|some a=>.ret a|none=>.fail
def aaW(E:fW)(t:aN)(op:BinOp)(x y:SV):Rd (aY×AV):=
 match x,y with
 |.v aq [a],.v aq [b]=>bif MY op then Rv (shV op a b)else(py E t).bind λk=>Rv (IA op k a b)
 |.v ao xs,.v ao d=>(rD E t).bind λti=>
  bif isEq op&&ma t E.eqs&&pR (xs.map Fs) ti.ks&&pR (d.map Fs) ti.ks&&plain ti.ks then Rv (match Ui xs d with|some r=>ai (ao,AV.b (match op with|.eql=>r|_=> !r))|none=>aj)else .fail
 |_,_=>.fail
def K_:aE AV->aE (aN×aE AV)->aE AV
 |z,[]=>z
 |z,(j,d)::r=>K_ (hS z j d) r
def FH(E:fW)(t:aN):aE (aN×eQ)->Rd (aE (aN×aE AV))
 |[]=>.ret []
 |(f,x)::r=>(FF x).bind λ
  |.v _ d=>match E.fo t f with
   |some (o,n)=>bif bK d.length n then(FH E t r).bind λl=>.ret ((o,d)::l)else .fail
   |none=>.fail
  |_=>.fail
def lV(E:fW)(a:AV):Rd (aN×Row):=
 match a with
 |.sh e xs=>.ret (e,xs)
 |.own nm=>(i6 nm).bind λ|.row e _ xs=>.ret (e,xs)|.fL e xs=>.ret (e,xs)|_=>.fail
 |.vw nm lo hi=>(i6 nm).bind λ|.row e _ xs=>.ret (e,dR xs lo hi)|.fL e xs=>.ret (e,dR xs lo hi)|_=>.fail
 |.lR nm i j=>(i6 nm).bind λ
  |.row e ao xs=>(rD E e).bind λti=>match ti.ks[j]? with|some (.l d)=>.ret (d,iH (av xs i j))|_=>.fail
  |_=>.fail
 |_=>.fail
def abF(E:fW)(k:Ck)(a:AV):Rd ay:=
 match k,a with
 |.s,.s x=>.ret x.size
 |.l _,.nl=>.ret 0
 |.l _,.vw nm lo hi=>(i6 nm).bind λ|.row _ _ _=>.ret ((hi-lo:aN):ay)|.fL _ _=>.ret ((hi-lo:aN):ay)|_=>.fail
 |.l _,a=>(lV E a).bind λ(_,xs)=>.ret xs.length
 |_,_=>.fail
def IM(ex:aY)(ks:aE Ck):aE (aN×eQ)->Row->Rd (Row×aE (aN×eW))
 |[],z=>.ret (z,[])
 |(i,x)::r,z=>(FF x).bind λ
  |.v _ d=>bif eS (i+1) z.length then(yr ex ks d).bind λ(cs,w)=>(IM ex ks r (z.set i cs)).bind λ(z,ws)=>.ret (z,w++ws)else .fail
  |_=>.fail
def K5:aE (aN×eQ)->Rd aY
 |[]=>.ret ao
 |(_,x)::r=>(FF x).bind λ
  |.v _ d=>(K5 r).bind λb=>.ret (aeH d&&b)
  |_=>.fail
def aT(ks:aE Ck)(n:aN):Row:=List.replicate n (ks.map yT)
def bytesOf(xs:Row):au:=⟨(xs.map λy=>ar (bN (y.getD 0 (.b aq))).toNat).toArray⟩
def qp(s:au):Row:=s.data.toList.map λb=>[.i .u8 (b.toNat:ay)]
def u8s:aE Ck->aY|[.i .u8]=>ao|_=>aq
def flat(E:fW)(ks:aE Ck):aY:=ks.all λ
 |.l e=>match E.ty e with|some ti=>plain ti.ks|none=>aq
 |_=>ao
def b8(n:aN)(bytes:aN):aY:=ah (n*bytes<=140737488355328)&&ah (n<=9223372036854775807)
def rN(E:fW)(ti:TI)(p:AV):Rd (aE AV):=
 match p with
 |.bp nm j=>(i6 nm).bind λ
  |.box xs=>bif eS (j+ti.ks.length) xs.length then .ret ((xs.drop j).take ti.ks.length)else .fail
  |.nI xs=>bif eS (j+ti.ks.length) xs.length then .ret (((xs.drop j).take ti.ks.length).map Wa)else .fail
  |_=>.fail
 |.fp xs j=>bif eS (j+ti.ks.length) xs.length then .ret (((xs.drop j).take ti.ks.length).map Wa)else .fail
 |.sp e xs i j=>(rD E e).bind λte=>bif pR ((te.ks.drop j).take ti.ks.length) ti.ks then .ret (um xs i j ti.ks)else .fail
 |.rp nm i j=>(i6 nm).bind λ
  |.row e ex xs=>(rD E e).bind λte=>bif pR ((te.ks.drop j).take ti.ks.length) ti.ks then(bif ex&&vr nm then(bif plain ti.ks then .ret (um xs i j ti.ks)else .fail)else .ret (bif ex then zF nm xs i j ti.ks else um xs i j ti.ks))else .fail
  |.fL e xs=>(rD E e).bind λte=>bif pR ((te.ks.drop j).take ti.ks.length) ti.ks then .ret (um xs i j ti.ks)else .fail
  |_=>.fail
 |.ip nm i j h d=>(i6 nm).bind λ
  |.row e ao xs=>(rD E e).bind λte=>match te.ks[j]? with
   |some (.l f)=>(rD E f).bind λk=>bif pR ((k.ks.drop d).take ti.ks.length) ti.ks then .ret (um (iH (av xs i j)) h d ti.ks)else .fail
   |_=>.fail
  |_=>.fail
 |_=>.fail
def FX(E:fW)(p:AV)(d:aE AV):Rd (aE (aN×eW)):=
 match p with
 |.bp nm j=>(i6 nm).bind λ
  |.box xs=>bif eS (j+d.length) xs.length then .ret [(c6 nm,.o (.box (hS xs j d)))]else .fail
  |_=>.fail
 |.rp nm i j=>(i6 nm).bind λ
  |.row e ex xs=>(rD E e).bind λte=>bif plain ((te.ks.drop j).take d.length)then(yr aq ((te.ks.drop j).take d.length) d).bind λ(cs,_)=>.ret [(c6 nm,.o (.row e ex (dV xs i j cs)))]else .fail
  |_=>.fail
 |.ip nm i j m h=>(i6 nm).bind λ
  |.row e ao xs=>(rD E e).bind λte=>match te.ks[j]? with
   |some (.l f)=>(rD E f).bind λk=>bif plain k.ks then(yr aq ((k.ks.drop h).take d.length) d).bind λ(cs,_)=>
    .ret [(c6 nm,.o (.row e ao (dV xs i j [.l f (dV (iH (av xs i j)) m h cs)])))]else .fail
   |_=>.fail
  |_=>.fail
 |_=>.fail
def Hn:aE AV->aY
 |[]=>ao
 |.own _::_=>aq
 |_::r=>Hn r
def yD:aN->aE AV->aA (aN×aN)
 |_,[]=>aj
 |q,.own n::r=>bif Hn r then ai (q,n)else aj
 |q,_::r=>yD (q+1) r
def CI(d f:aN)(zs:Row):aE Ck->aE AV->aA (aE CV)
 |[],[]=>ai []
 |.i k::ks,.i k' x::r=>if k=k' then(CI d f zs ks r).map (.i k x:: ·)else aj
 |.b::ks,.b x::r=>(CI d f zs ks r).map (.b x:: ·)
 |.s::ks,.s x::r=>(CI d f zs ks r).map (.s x:: ·)
 |.l e::ks,.own n::r=>bif bK e d&&bK n f then(CI d f zs ks r).map (.l d zs:: ·)else aj
 |_,_=>aj
def FW(E:fW)(n i j:aN)(f:aE AV):Rd (aE (aN×eW)):=
 (i6 n).bind λ
 |.row e ao xs=>(rD E e).bind λte=>match yD 0 f with
  |some (q,d)=>bif bK n d then .fail else(i6 d).bind λ
   |.row h ao zs=>(rD E h).bind λk=>bif plain k.ks&&eS (j+f.length) te.ks.length then(match CI h d zs ((te.ks.drop j).take f.length) f with
    |some cs=>.ret [(c6 n,.o (.row e ao (dV xs i j cs))),(c6 d,.o .dead)]
    |none=>.fail)else .fail
   |_=>.fail
  |none=>.fail
 |_=>.fail
def Ua(E:fW)(n i j k f lo hi:aN):Rd (aE (aN×eW)):=
 (i6 n).bind λ
 |.row e ao xs=>(rD E e).bind λte=>match te.ks[j]?,te.ks[f]? with
  |some (.l d),ai (.l h)=>bif bK d h then .ret [(c6 n,.o (.row e aq (dV xs i j [.l d (dR (iH (av xs k f)) lo hi)])))]else .fail
  |_,_=>.fail
 |_=>.fail
def UA:aE AV->aA (aN×aN×aN×aN×aN)
 |[.iv n i j lo hi]=>ai (n,i,j,lo,hi)
 |_=>aj
def SD(E:fW)(p:AV)(d:aE AV):Rd (aE (aN×eW)):=
 match p with
 |.rp n i j=>bif vr n then FW E n i j d else(match UA d with
  |some (k,f,h,lo,hi)=>bif bK n k then Ua E n i j f h lo hi else .fail
  |none=>FX E (.rp n i j) d)
 |p=>FX E p d
def Qc(E:fW)(t:aN)(f:aN)(p:AV):Rd AV:=
 match E.fo t f with
 |none=>.fail
 |some (o,_)=>match p with
  |.bp nm j=>.ret (.bp nm (j+o))
  |.rp nm i j=>.ret (.rp nm i (j+o))
  |.sp e xs i j=>.ret (.sp e xs i (j+o))
  |.ip nm i j d h=>.ret (.ip nm i j d (h+o))
  |.fp xs j=>.ret (.fp xs (j+o))
  |_=>.fail
def Qr(E:fW)(e:aN)(x:AV)(n:ay):Rd (aY×AV):=
 match x with
 |.sh d xs=>bif bK e d then .ret (ah (0<=n)&&ah (n<(xs.length:ay)),.sp d xs n.toNat 0)else .fail
 |.own nm=>(i6 nm).bind λ
  |.row d _ xs=>bif bK e d then .ret (ah (0<=n)&&ah (n<(xs.length:ay)),.rp nm n.toNat 0)else .fail
  |.fL d xs=>bif bK e d then .ret (ah (0<=n)&&ah (n<(xs.length:ay)),.rp nm n.toNat 0)else .fail
  |_=>.fail
 |.vw nm lo hi=>(i6 nm).bind λ
  |.row d _ xs=>bif bK e d then .ret (ah (0<=n)&&ah (n<((hi-lo:aN):ay)),.rp nm (lo+n.toNat) 0)else .fail
  |.fL d xs=>bif bK e d then .ret (ah (0<=n)&&ah (n<((hi-lo:aN):ay)),.rp nm (lo+n.toNat) 0)else .fail
  |_=>.fail
 |.lR nm i j=>(i6 nm).bind λ
  |.row f ao xs=>(rD E f).bind λte=>match te.ks[j]? with
   |some (.l d)=>bif bK e d then .ret (ah (0<=n)&&ah (n<((iH (av xs i j)).length:ay)),.ip nm i j n.toNat 0)else .fail
   |_=>.fail
  |_=>.fail
 |_=>.fail
def mA(x:aA eQ)(d:ay):Rd ay:=
 match x with
 |none=>.ret d
 |some x=>(BF x).bind λ(_,n)=>.ret n
def fU(l h n:ay):aY:=ah (0<=l)&&ah (l<=h)&&ah (h<=n)
def RU(e:aN)(x:AV)(lo hi:aA eQ):Rd (aY×AV):=
 match x with
 |.sh d xs=>bif bK e d then(mA lo 0).bind λl=>(mA hi xs.length).bind λh=>.ret (fU l h xs.length,.sh d (dR xs l.toNat h.toNat))else .fail
 |.own nm=>(i6 nm).bind λ
  |.row d _ xs=>bif bK e d then(mA lo 0).bind λl=>(mA hi xs.length).bind λh=>.ret (fU l h xs.length,.vw nm l.toNat h.toNat)else .fail
  |.fL d xs=>bif bK e d then(mA lo 0).bind λl=>(mA hi xs.length).bind λh=>.ret (fU l h xs.length,.vw nm l.toNat h.toNat)else .fail
  |_=>.fail
 |.vw nm a b=>(i6 nm).bind λ
  |.row d _ _=>bif bK e d then(mA lo 0).bind λl=>(mA hi ((b-a:aN):ay)).bind λh=>.ret (fU l h ((b-a:aN):ay),.vw nm (a+l.toNat) (a+h.toNat))else .fail
  |.fL d _=>bif bK e d then(mA lo 0).bind λl=>(mA hi ((b-a:aN):ay)).bind λh=>.ret (fU l h ((b-a:aN):ay),.vw nm (a+l.toNat) (a+h.toNat))else .fail
  |_=>.fail
 |.nl=>(mA lo 0).bind λl=>(mA hi 0).bind λh=>.ret (fU l h 0,.nl)
 |_=>.fail
def acr(E:fW)(e n i j:aN)(lo hi:aA eQ):Rd (aY×AV):=
 (i6 n).bind λ
 |.row f ao xs=>(rD E f).bind λte=>match te.ks[j]? with
  |some (.l d)=>bif bK e d then(mA lo 0).bind λl=>(mA hi (iH (av xs i j)).length).bind λh=>.ret (fU l h (iH (av xs i j)).length,.iv n i j l.toNat h.toNat)else .fail
  |_=>.fail
 |_=>.fail
def RV(E:fW)(e:aN)(x:AV)(lo hi:aA eQ):Rd (aY×AV):=
 match x with
 |.lR n i j=>acr E e n i j lo hi
 |x=>RU e x lo hi
def JE(E:fW)(k:Ck)(x:AV)(lo hi:aA eQ):Rd (aY×AV):=
 match k,x with
 |.s,.s a=>(mA lo 0).bind λl=>(mA hi a.size).bind λh=>.ret (fU l h a.size,.s (a.extract l.toNat h.toNat))
 |.l e,x=>(rD E e).bind λ_=>RV E e x lo hi
 |_,_=>.fail
def vV(e:aN)(s:AV):Rd (aY×Row×aE aN):=
 match s with
 |.nl=>.ret (ao,[],[])
 |.own nm=>(i6 nm).bind λ
  |.row d ex xs=>bif bK e d then .ret (ex,xs,[nm])else .fail
  |_=>.fail
 |.vw nm lo hi=>(i6 nm).bind λ
  |.row d ex xs=>bif bK e d then .ret (ex,dR xs lo hi,[nm])else .fail
  |_=>.fail
 |_=>.fail
def QY(E:fW)(f e:aN)(ks:aE Ck)(b:aE aN)(x:AV):Rd (aY×Row×aE (aN×eW)):=
 match x with
 |.s a=>bif u8s ks then .ret (ao,qp a,[])else .fail
 |.nl=>.ret (ao,[],[])
 |.sh d xs=>bif bK e d then .ret (plain ks,xs,[])else .fail
 |.own nm=>(i6 nm).bind λ
  |.row d ex xs=>bif bK e d then
   (bif plain ks|| !ex then .ret (plain ks,xs,[])
   else bif ma nm b then .fail
   else bif E.tk f then .ret (aq,xs,[(c6 nm,.o (.fL e xs))])else .ret (ao,xs,[(c6 nm,.o .dead)]))else .fail
  |.fL d xs=>bif bK e d then .ret (plain ks,xs,[])else .fail
  |_=>.fail
 |.vw nm lo hi=>(i6 nm).bind λ
  |.row d ex xs=>bif bK e d then
   (bif plain ks|| !ex then .ret (plain ks,dR xs lo hi,[])
   else bif ma nm b then .fail
   else bif E.tk f then .ret (aq,dR xs lo hi,[(c6 nm,.o (.fL e xs))])else .fail)else .fail
  |.fL d xs=>bif bK e d then .ret (plain ks,dR xs lo hi,[])else .fail
  |_=>.fail
 |.lR nm i j=>bif plain ks then(lV E (.lR nm i j)).bind λ(d,xs)=>bif bK e d then .ret (ao,xs,[])else .fail else .fail
 |_=>.fail
def nR(b:aE aN):aE (aN×eW):=b.map λn=>(c6 n,.o .dead)
def EV(E:fW)(d:aN)(t:aN)(s x:AV):Rd (aY×AV×aE (aN×eW)):=
 (rD E t).bind λti=>match ti.agg,ti.ks with
 |false,[.l e]=>(rD E e).bind λte=>bif Jk te.ks then(vV e s).bind λ(f,xs,b)=>
  (QY E d e te.ks b x).bind λ(h,i,j)=>(fresh d).bind λ_=>
  .ret (b8 (xs.length+i.length) te.bytes,.own d,nR b++(j++[(c6 d,.o (.row e (f&&h) (xs++i)))]))else .fail
 |_,_=>.fail
def SY(E:fW)(d:aN)(t:aN)(s:AV)(n:ay):Rd (aY×AV×aE (aN×eW)):=
 (rD E t).bind λti=>match ti.agg,ti.ks with
 |false,[.l e]=>(rD E e).bind λte=>bif Jk te.ks&&flat E te.ks then(vV e s).bind λ(ex,xs,b)=>(fresh d).bind λ_=>
  .ret (ah (0<=n)&&b8 (xs.length+n.toNat) te.bytes&&ah (n<=9223372036854775807),.own d,nR b++[(c6 d,.o (.row e ex (xs++aT te.ks n.toNat)))])else .fail
 |_,_=>.fail
def P7(E:fW)(e:aN)(x:AV):Rd (aE (aN×eW)):=
 match x with
 |.own nm=>(i6 nm).bind λ
  |.row d ex xs=>(rD E e).bind λte=>bif bK e d&&plain te.ks then .ret [(c6 nm,.o (.row d ex (aT te.ks xs.length)))]else .fail
  |_=>.fail
 |.vw nm lo hi=>(i6 nm).bind λ
  |.row d ex xs=>(rD E e).bind λte=>bif bK e d&&plain te.ks then .ret [(c6 nm,.o (.row d ex (xs.take lo++aT te.ks (hi-lo)++xs.drop hi)))]else .fail
  |_=>.fail
 |.nl=>.ret []
 |_=>.fail
def ea(mx:aY)(a b:ay):ay:=bif mx then(if b>a then b else a)else(if b<a then b else a)
def wv(mx:aY):aE eQ->sn->ay->Rd AV
 |[],k,a=>.ret (.i k a)
 |x::r,k,a=>(BF x).bind λ(_,b)=>wv mx r k (ea mx a b)
end Go.FG
namespace Go.FG
inductive Src where
 |own (nm e:aN) (ex:aY)|no
structure Pk where
 a:AA
 src:Src
 rd:aE aN
def zh(E:fW)(mt:aY)(a:AV):Rd Pk:=
 match a with
 |.i k n=>.ret ⟨.i k n,.no,[]⟩|.b x=>.ret ⟨.b x,.no,[]⟩|.s x=>.ret ⟨.s x,.no,[]⟩
 |.sh e xs=>.ret ⟨.sh e xs,.no,[]⟩
 |.nl=>.ret ⟨.nl,.no,[]⟩
 |.fn f d=>.ret ⟨.fn f d,.no,[]⟩
 |.own nm=>(i6 nm).bind λ
  |.row e ex xs=>bif mt then .ret ⟨.ow e ex xs,.own nm e ex,[]⟩else .ret ⟨.sh e xs,.no,[nm]⟩
  |.fL e xs=>.ret ⟨.sh e xs,.no,[]⟩
  |_=>.fail
 |.vw nm lo hi=>bif mt then .fail else(i6 nm).bind λ
  |.row e _ xs=>.ret ⟨.sh e (dR xs lo hi),.no,[nm]⟩
  |.fL e xs=>.ret ⟨.sh e (dR xs lo hi),.no,[]⟩
  |_=>.fail
 |.lR nm i j=>(i6 nm).bind λ
  |.row e ao xs=>(rD E e).bind λte=>match te.ks[j]? with
   |some (.l h)=>(rD E h).bind λm=>bif plain m.ks&& !mt then .ret ⟨.sh h (iH (av xs i j)),.no,[nm]⟩else .fail
   |_=>.fail
  |_=>.fail
 |_=>.fail
def BO(E:fW)(mt:aY):aE AV->Rd (aE Pk)
 |[]=>.ret []
 |a::r=>(zh E mt a).bind λp=>(BO E mt r).bind λl=>.ret (p::l)
structure Pa where
 arg:gg
 box:aA (aN×aE AV)
 cs:aE Pk
def aaP(E:fW)(mt:aY)(x:SV):Rd Pa:=
 match x with
 |.v aq [.bp nm 0]=>bif mt then(i6 nm).bind λ
  |.box xs=>(BO E ao xs).bind λl=>.ret ⟨.pt (l.map (·.a)),ai (nm,xs),l⟩
  |_=>.fail
  else .fail
 |.v agg xs=>(BO E mt xs).bind λl=>.ret ⟨.v agg (l.map (·.a)),aj,l⟩
 |_=>.fail
def V_:Ck->AV->AV
 |.l e,.nl=>.sh e []
 |_,a=>a
def Bz:aE Ck->aE AV->aE AV
 |k::ks,a::r=>V_ k a::Bz ks r
 |_,r=>r
def nlz(E:Tab)(t:aA aN)(v:SV):SV:=
 match t with
 |none=>v
 |some t=>match E.ty t,v with
  |some ti,.v g xs=>.v g (Bz ti.ks xs)
  |_,v=>v
def PU(E:fW)(f:aN)(d:aA (aE aN)):aN->aE eQ->Rd (aE Pa)
 |_,[]=>.ret []
 |p,x::r=>(FF x).bind λv=>(aaP E (E.mode f p) (bif E.mode f p then v else nlz E (match d with|some l=>l[p]? |none=>aj) v)).bind λa=>bif eS a.cs.length 100 then(PU E f d (p+1) r).bind λl=>.ret (a::l)else .fail
def Pk.tG(p:Pk):aE aN:=match p.src with|.own nm _ _=>[nm]|.no=>[]
def Pa.tG(p:Pa):aE aN:=(match p.box with|some (nm,_)=>[nm]|none=>[])++p.cs.flatMap (·.tG)
def Pa.ou(p:Pa):aE aN:=p.cs.flatMap (·.rd)
def sV:aE aN->aY
 |[]=>ao|n::r=> !ma n r&&sV r
def qT:aE aN->aE aN->aY
 |[],_=>ao|n::r,l=> !ma n l&&qT r l
def qV(ok:aY)(nm:aN)(a:AA):Rd (AV×aE (aN×eW)):=
 match a with
 |.i k n=>.ret (.i k n,[])|.b x=>.ret (.b x,[])|.s x=>.ret (.s x,[])|.nl=>.ret (.nl,[])
 |.sh e xs=>bif ok then .ret (.sh e xs,[])else .fail
 |.ow e ex xs=>bif ex||ok then(fresh nm).bind λ_=>.ret (.own nm,[(c6 nm,.o (.row e ex xs))])else .fail
 |_=>.fail
def zZ(ok:aY):aN->aE AA->Rd (aE AV×aE (aN×eW))
 |_,[]=>.ret ([],[])
 |nm,a::r=>(qV ok nm a).bind λ(v,w)=>(zZ ok (nm+1) r).bind λ(vs,ws)=>.ret (v::vs,w++ws)
def EY(ok:aY)(nm:aN)(a:gg):Rd ((aY×aE AV)×aE (aN×eW)):=
 match a with
 |.v agg xs=>(zZ ok nm xs).bind λ(vs,ws)=>.ret ((agg,vs),ws)
 |.pt xs=>(zZ ok nm xs).bind λ(vs,ws)=>(fresh (nm+30)).bind λ_=>.ret ((aq,[.bp (nm+30) 0]),ws++[(c6 (nm+30),.o (.box vs))])
 |.fb _=>.fail
def A4(ok:aY):aN->aE gg->Rd (aE (aY×aE AV)×aE (aN×eW))
 |_,[]=>.ret ([],[])
 |nm,a::r=>(EY ok nm a).bind λ(v,w)=>(A4 ok (nm+40) r).bind λ(vs,ws)=>.ret (v::vs,w++ws)
def DG(ok:aY)(p:Pk)(a:AA):Rd (aE (aN×eW)):=
 match p.src,a with
 |.no,_=>.ret []
 |.own nm e ex,.kp xs=>bif ex||ok then .ret [(c6 nm,.o (.row e ex xs))]else .fail
 |.own nm _ _,.nl=>.ret [(c6 nm,.o .dead)]
 |_,_=>.fail
def Ju(ok:aY):aE Pk->aE AA->Rd (aE (aN×eW))
 |[],_=>.ret []
 |p::r,l=>(DG ok p (l.headD .nl)).bind λw=>(Ju ok r l.tail).bind λws=>.ret (w++ws)
def BJ(ok:aY)(nm:aN)(p:Pk)(v:AV)(a:AA):Rd (AV×aE (aN×eW)):=
 match p.src,a with
 |.own n e ex,.kp xs=>bif ex||ok then .ret (v,[(c6 n,.o (.row e ex xs))])else .fail
 |.own n _ _,a=>(qV ok nm a).bind λ(v,w)=>.ret (v,(c6 n,.o .dead)::w)
 |.no,a=>qV ok nm a
def rn(ok:aY):aN->aE Pk->aE AV->aE AA->Rd (aE AV×aE (aN×eW))
 |_,[],[],[]=>.ret ([],[])
 |nm,p::ps,v::vs,a::as=>(BJ ok nm p v a).bind λ(v,w)=>(rn ok (nm+1) ps vs as).bind λ(vs,ws)=>.ret (v::vs,w++ws)
 |_,_,_,_=>.fail
def Rx(ok:aY)(nm:aN)(p:Pa)(l:aE AA):Rd (aE (aN×eW)):=
 match p.box with
 |some (n,vs)=>(rn ok nm p.cs vs l).bind λ(vs,ws)=>.ret (ws++[(c6 n,.o (.box vs))])
 |none=>Ju ok p.cs l
def Jt(ok:aY):aN->aE Pa->aE (aE AA)->Rd (aE (aN×eW))
 |_,[],_=>.ret []
 |nm,p::r,l=>(Rx ok nm p (l.headD [])).bind λw=>(Jt ok (nm+40) r l.tail).bind λws=>.ret (w++ws)
def rO:aE (aY×aE AV)->SV
 |[(agg,xs)]=>.v agg xs
 |l=>.jS l
def mM:gg->aN|.v _ xs=>xs.length|.pt xs=>xs.length|.fb _=>0
def Qi:aE aN->Rd (aE (aN×eW))
 |[]=>.ret []
 |n::r=>(i6 n).bind λ
  |.row e _ xs=>(Qi r).bind λws=>.ret ((c6 n,.o (.fL e xs))::ws)
  |_=>.fail
def E8(E:fW)(nm:aN)(o:gK)(f:aN)(args:aE eQ)(h:aA (aE aN))(d:aE (aE CV)):Rd sj:=
 (PU E f h 0 args).bind λps=>
  bif sV (ps.flatMap (·.tG))&&qT (ps.flatMap (·.tG)) (ps.flatMap (·.ou))then
   match E.call f (ps.map (·.arg)++d.map gg.fb)with
   |some (c,r)=>bif eS ps.length 400&&(r.rs.all λa=>eS (mM a) 30)&&(r.outs.all λa=>eS a.length 100)then(Qi (bif E.tk nm then ps.flatMap (·.ou)else [])).bind λw0=>
    (Jt (E.tk nm||(ps.flatMap (·.ou)).isEmpty) (nm+400) ps r.outs).bind λw1=>(A4 (E.tk nm||(ps.flatMap (·.ou)).isEmpty) (nm+1) r.rs).bind λ(vs,i)=>
    bif sV ((w1++i).map (·.1))then .ret ⟨c,w0++(w1++i)++dw o (rO vs)⟩else .fail else .fail
   |none=>.fail
  else .fail
def Rd.or{α:Type}:Rd α->Rd α->Rd α
 |.ret a,_=>.ret a
 |.fail,y=>y
 |.get k f,y=>.get k λc=>(f c).or y
def KR(E:fW)(nm:aN)(o:gK)(f:aN)(args:aE eQ)(h:aE aN)(d:aE (aE CV)):Rd sj:=
 (E8 E nm o f args aj d).or (E8 E nm o f args (ai h) d)
def Bq(E:fW)(o:gK)(f n i j:aN)(y:eQ):Rd sj:=
 (BF y).bind λ(k,m)=>(i6 n).bind λ
  |.row e ao xs=>(rD E e).bind λte=>match te.ks[j]? with
   |some (.l d)=>match E.call f [.v aq [.ow d ao (iH (av xs i j))],.v aq [.i k m]]with
    |some (c,r)=>match r.rs,r.outs with
     |[.v aq [.i h s]],[[.kp t]]=>.ret ⟨c,(c6 n,.o (.row e ao (dV xs i j [.l d t])))::dw o (.v aq [.i h s])⟩
     |_,_=>.fail
    |none=>.fail
   |_=>.fail
  |_=>.fail
def P3:aE eQ->Rd (aE (aE CV)×aE (aN×eW))
 |[]=>.ret ([],[])
 |x::r=>(rk x).bind λ
  |.bp nm 0=>(i6 nm).bind λ
   |.box xs=>(aaY xs).bind λcs=>(P3 r).bind λ(l,ws)=>.ret (cs::l,(c6 nm,.o (.nI cs))::ws)
   |.nI cs=>(P3 r).bind λ(l,ws)=>.ret (cs::l,ws)
   |_=>.fail
  |_=>.fail
where aaY:aE AV->Rd (aE CV)
 |[]=>.ret []
 |a::r=>(aaY r).bind λl=>match a with
  |.i k n=>.ret (.i k n::l)|.b x=>.ret (.b x::l)|.s x=>.ret (.s x::l)
  |.sh e xs=>.ret (.l e xs::l)
  |_=>.fail
def lE(E:fW)(nm:aN)(o:gK):Rd sj:=
 match o.op with
 |.move x|.assign x=>(FF x).bind λv=>val o v
 |.nilCheck x=>(rk x).bind λp=>match p with
  |.bp nm j=>val o (.v aq [.bp nm j])
  |.rp nm i j=>val o (.v aq [.rp nm i j])
  |_=>.fail
 |.pick c a b=>(rk c).bind λc=>(FF a).bind λa=>(FF b).bind λb=>
  match c,a,b with
  |.b c,.v aq [.b p],.v aq [.b q]=>yR o (.b (bif c then p else q))
  |.b c,.jS [],b=>.ret ⟨!c,dw o b⟩
  |.b c,a,.jS []=>.ret ⟨c,dw o a⟩
  |_,_,_=>.fail
 |.alloc t=>(rD E t).bind λti=>bif Jk ti.ks then(fresh nm).bind λ_=>.ret ⟨ao,(c6 nm,.o (.box (ti.ks.map Cd)))::dw o (.v aq [.bp nm 0])⟩else .fail
 |.box t x=>(FF x).bind λ
  |.v _ xs=>(fresh nm).bind λ_=>.ret ⟨ao,(c6 nm,.o (.box xs))::dw o (.v aq [.bp nm 0])⟩
  |_=>.fail
 |.build t ps=>(rD E t).bind λti=>bif Jk ti.ks&&ti.agg then(FH E t ps.toList).bind λl=>val o (.v ao (K_ (ti.ks.map Cd) l))else .fail
 |.buildSlice t n ps=>(rD E t).bind λti=>match ti.agg,ti.ks with
  |false,[.l e]=>(rD E e).bind λte=>bif Jk te.ks then(K5 ps.toList).bind λex=>(IM (ex&&flat E te.ks) te.ks ps.toList (aT te.ks n)).bind λ(xs,w)=>(fresh nm).bind λ_=>
   .ret ⟨eS (n*te.ks.length) 16777216&&sV (w.map (·.1)),w++(c6 nm,.o (.row e (ex&&flat E te.ks) xs))::dw o (.v aq [.own nm])⟩else .fail
  |_,_=>.fail
 |.load t p=>(rD E t).bind λti=>(rk p).bind λp=>(rN E ti p).bind λxs=>val o (.v ti.agg xs)
 |.store t p x=>(rD E t).bind λti=>(rk p).bind λp=>(FF x).bind λ
  |.v _ z=>bif bK z.length ti.ks.length then(SD E p z).bind λw=>.ret ⟨ao,w++dw o .un⟩else .fail
  |_=>.fail
 |.fieldAddr t p f=>(rk p).bind λp=>(Qc E t f p).bind λq=>yR o q
 |.field t x f=>(FF x).bind λ
  |.v ao xs=>match E.fo t f with
   |some (j,n)=>bif E.Tk t f&&bK n 1 then(match xs.drop j with|a::_=>yR o a|[]=>.fail)else .fail
   |none=>.fail
  |_=>.fail
 |.indexAddr t x i=>(py E t).bind λ
  |.l e=>(rk x).bind λx=>(BF i).bind λ(_,n)=>(Qr E e x n).bind λ(c,q)=>JQ o c q
  |_=>.fail
 |.index t x i=>(py E t).bind λk=>(rk x).bind λx=>(BF i).bind λ(_,n)=>match k,x with
  |.s,.s a=>JQ o (ah (0<=n)&&ah (n<(a.size:ay))) (.i .u8 ((a.data.getD n.toNat 0).toNat:ay))
  |_,_=>.fail
 |.binOp op t x y _=>(FF x).bind λx=>(FF y).bind λy=>(aaW E t op x y).bind λ(c,v)=>JQ o c v
 |.unOp op _ x=>(rk x).bind λx=>match op,x with
  |.not,.b x=>yR o (.b (!x))
  |.neg,.i k n=>yR o (.i k (k.wrap (0-n)))
  |_,_=>.fail
 |.convert src dst x=>(py E src).bind λks=>(py E dst).bind λkd=>(rk x).bind λx=>match kd,ks,x with
  |.i k,.i _,.i _ n=>yR o (.i k (k.wrap n))
  |.s,.s,.s a=>yR o (.s a)
  |.s,.l h,.nl=>(rD E h).bind λte=>bif u8s te.ks&& !te.agg then yR o (.s ⟨#[]⟩)else .fail
  |.s,.l h,a=>(lV E a).bind λ(e,xs)=>(rD E e).bind λte=>bif bK e h&&u8s te.ks&& !te.agg then JQ o (ah (xs.length<=4611686018427387904)) (.s (bytesOf xs))else .fail
  |_,_,_=>.fail
 |.makeSlice t l c=>(BF l).bind λ(_,n)=>(BF c).bind λ(_,m)=>(rD E t).bind λti=>match ti.agg,ti.ks with
  |false,[.l e]=>(rD E e).bind λte=>bif Jk te.ks&&flat E te.ks then(fresh (bif plain te.ks then nm else nm+999)).bind λ_=>.ret ⟨ah (0<=n)&&ah (n=m)&&b8 n.toNat te.bytes,(c6 (bif plain te.ks then nm else nm+999),.o (.row e ao (aT te.ks n.toNat)))::dw o (.v aq [.own (bif plain te.ks then nm else nm+999)])⟩else .fail
  |_,_=>.fail
 |.slice t x lo hi mx=>match mx with
  |some _=>.fail
  |none=>(py E t).bind λk=>(rk x).bind λx=>(JE E k x lo hi).bind λ(c,v)=>JQ o c v
 |.extract x i=>(FF x).bind λ
  |.jS l=>match l[i]? with|some (agg,xs)=>val o (.v agg xs)|none=>.fail
  |_=>.fail
 |.makeFunc (.func f) first d=>bif first.isEmpty then(P3 d.toList).bind λ(l,ws)=>.ret ⟨ao,ws++dw o (.v aq [.fn f l])⟩else .fail
 |.call c=>match c.callee with
  |.builtin .len=>match c.args.toList,c.argTypes.toList with
   |[x],[t]=>(py E t).bind λk=>(rk x).bind λx=>(abF E k x).bind λn=>yR o (.i .i64 n)
   |_,_=>.fail
  |.builtin .cap=>match c.args.toList,c.argTypes.toList with
   |[x],[t]=>(py E t).bind λ|.l _=>((rk x).bind λ|.nl=>yR o (.i .i64 0)|_=>.fail)|_=>.fail
   |_,_=>.fail
  |.builtin .min=>match c.args.toList with
   |x::r=>(BF x).bind λ(k,n)=>(wv aq r k n).bind λv=>yR o v
   |_=>.fail
  |.builtin .max=>match c.args.toList with
   |x::r=>(BF x).bind λ(k,n)=>(wv ao r k n).bind λv=>yR o v
   |_=>.fail
  |.builtin .clear=>match c.args.toList with
   |[x]=>match c.argTypes.toList with
    |[t]=>(py E t).bind λ|.l e=>((rk x).bind λx=>(P7 E e x).bind λw=>.ret ⟨ao,w++dw o (.jS [])⟩)|_=>.fail
    |_=>.fail
   |_=>.fail
  |.builtin .append=>match c.args.toList,c.argTypes.toList with
   |[s,x],[t,u]=>(py E u).bind λA=>(rk s).bind λs=>(rk x).bind λx=>match A,x with
    |.i _,.i _ n=>(SY E nm t s n).bind λ(b,v,w)=>.ret ⟨b,w++dw o (.v aq [v])⟩
    |.l _,x=>(EV E nm t s x).bind λ(b,v,w)=>.ret ⟨b,w++dw o (.v aq [v])⟩
    |.s,x=>(EV E nm t s x).bind λ(b,v,w)=>.ret ⟨b,w++dw o (.v aq [v])⟩
    |_,_=>.fail
   |_,_=>.fail
  |.value f=>(rk f).bind λ
   |.fn f d=>match c.args.toList,d with
    |[x,y],[]=>(FF x).bind λ
     |.v aq [.lR n i j]=>bif E.mode f 0 then Bq E o f n i j y else KR E nm o f c.args.toList c.argTypes.toList d
     |_=>KR E nm o f c.args.toList c.argTypes.toList d
    |_,_=>KR E nm o f c.args.toList c.argTypes.toList d
   |_=>.fail
  |_=>.fail
 |_=>.fail
inductive Ex where
 |normal|exit (id:aN)|ret
structure Lg where
 rs:aE aN
 ws:aE aN
def Ld{R:Type}(a:AV)(f:AV->R):R:=
 match a with
 |.i k n=>f (.i k n)|.b x=>f (.b x)|.s x=>f (.s x)|.sh e xs=>f (.sh e xs)|.nl=>f .nl|.own n=>f (.own n)|.vw n lo hi=>f (.vw n lo hi)
 |.bp n j=>f (.bp n j)|.rp n i j=>f (.rp n i j)|.sp e xs i j=>f (.sp e xs i j)|.lR n i j=>f (.lR n i j)|.ip n i j h m=>f (.ip n i j h m)|.iv n i j lo hi=>f (.iv n i j lo hi)|.fn g d=>f (.fn g d)|.fp xs j=>f (.fp xs j)
def Ff{R:Type}(a:aY)(f:aY->R):R:=match a with|true=>f ao|false=>f aq
def oS{R:Type}:aE AV->(aE AV->R)->R
 |[],f=>f []|a::r,f=>Ld a λa=>oS r λr=>f (a::r)
def Fh{R:Type}:aE (aY×aE AV)->(aE (aY×aE AV)->R)->R
 |[],f=>f []|(g,xs)::r,f=>Ff g λg=>oS xs λxs=>Fh r λr=>f ((g,xs)::r)
def Fg{R:Type}(v:SV)(f:SV->R):R:=
 match v with
 |.v g xs=>Ff g λg=>oS xs λxs=>f (.v g xs)|.jS l=>Fh l λl=>f (.jS l)|.un=>f .un
def I2{R:Type}(o:Obj)(f:Obj->R):R:=
 match o with
 |.box xs=>oS xs λxs=>f (.box xs)|.nI cs=>f (.nI cs)|.row e ex xs=>Ff ex λex=>f (.row e ex xs)|.fL e xs=>f (.fL e xs)|.dead=>f .dead
def I1{R:Type}(c:eW)(f:eW->R):R:=
 match c with
 |.v x=>Fg x λx=>f (.v x)|.o x=>I2 x λx=>f (.o x)|.jw=>f .jw
def Bm{R:Type}:aE (aN×eW)->(aE (aN×eW)->R)->R
 |[],f=>f []|(k,c)::r,f=>I1 c λc=>Bm r λr=>f ((k,c)::r)
theorem I0(a:AV)(f:AV->R):Ld a f=f a:=by cases a<;>rfl
theorem yu(a:aY)(f:aY->R):Ff a f=f a:=by cases a<;>rfl
theorem nv:∀(l:aE AV) (f:aE AV->R),oS l f=f l
 |[],_=>rfl
 |a::r,f=>by simp only[oS,I0,nv r]
theorem Dq:∀(l:aE (aY×aE AV)) (f:aE (aY×aE AV)->R),Fh l f=f l
 |[],_=>rfl
 |(g,xs)::r,f=>by simp only[Fh,yu,nv,Dq r]
theorem I3(v:SV)(f:SV->R):Fg v f=f v:=by cases v<;>simp only[Fg,yu,nv,Dq]
theorem MO(v:Obj)(f:Obj->R):I2 v f=f v:=by cases v<;>simp only[I2,yu,nv]
theorem MN(v:eW)(f:eW->R):I1 v f=f v:=by cases v<;>simp only[I1,I3,MO]
theorem Dr:∀(l:aE (aN×eW)) (f:aE (aN×eW)->R),Bm l f=f l
 |[],_=>rfl
 |(k,c)::r,f=>by simp only[Bm,MN,Dr r]
def ops{R:Type}(E:fW)(j:eF gK)(h:aN):aN->aE gK->St->aE Lg->(St->aE Lg->aA R)->aA R
 |_,[],σ,m,K=>K σ m
 |i,o::rest,σ,m,K=>match o.guard with
  |none=>match (lE E ((h+1)*1000000+i*1000) o).run σ []with
   |some (e,l)=>bif e.cond then Bm e.ws (λws=>ops E j h (i+1) rest (wr σ ws) (⟨l,ws.map (·.1)⟩::m) K)else aj
   |none=>aj
  |some (g,k)=>match (j.getD g default).dst with
   |none=>aj
   |some d=>match σ (pW d)with
    |.v (.v aq [.b x])=>
     let f:=λy=>match (lE E ((h+1)*1000000+i*1000) o).run (ox σ (pW d) (.v (.v aq [.b y]))) []with
      |some (e,l)=>bif e.cond then Bm e.ws (λws=>ops E j h (i+1) rest (wr (ox σ (pW d) (.v (.v aq [.b y]))) ws) (⟨pW d::l,ws.map (·.1)⟩::m) K)else aj
      |none=>aj
     let skip:=λy=>ops E j h (i+1) rest (wr (ox σ (pW d) (.v (.v aq [.b y]))) (dw o (.jS []))) (⟨[pW d],(dw o (.jS [])).map (·.1)⟩::m) K
     bif x then(bif k then f ao else skip ao)else(bif k then skip aq else f aq)
    |.v (.jS [])=>ops E j h (i+1) rest (wr σ (dw o (.jS []))) (⟨[pW d],(dw o (.jS [])).map (·.1)⟩::m) K
    |_=>aj
def ddA(acc:aE aN):aE aN->aE aN
 |[]=>acc|n::r=>bif ma n acc then ddA acc r else ddA (n::acc) r
def mm{R:Type}:aE aN->(aE aN->R)->R
 |[],f=>f []|n::r,f=>mm r λr=>f (n::r)
def Af{R:Type}:aE (aE aN)->(aE (aE aN)->R)->R
 |[],f=>f []|n::r,f=>mm n λn=>Af r λr=>f (n::r)
theorem oq:∀(l:aE aN) (f:aE aN->R),mm l f=f l
 |[],_=>rfl
 |n::r,f=>by simp only[mm,oq r]
theorem Bl:∀(l:aE (aE aN)) (f:aE (aE aN)->R),Af l f=f l
 |[],_=>rfl
 |n::r,f=>by simp only[Af,oq,Bl r]
theorem E9:∀(l acc:aE aN) (x:aN),x∈ddA acc l->x∈acc\/x∈l
 |[],_,_,h=>.inl h
 |n::r,acc,x,h=>by
  unfold ddA at h;cases d:ma n acc with
  |true=>
   rw[d]at h;rcases E9 r acc x h with h|h
   ·exact .inl h
   ·exact .inr (cu _ h)
  |false=>
   rw[d]at h;rcases E9 r (n::acc) x h with h|h
   ·rcases cm.1 h with rfl|h
    ·exact .inr cD
    ·exact .inl h
   ·exact .inr (cu _ h)
def EU:aE (aE aN)->aE gK->aE (aE aN)
 |acc,[]=>acc
 |acc,o::r=>mm (ddA [] (o.after.toList.flatMap λe=>bif me .any e then e.on::acc.getD e.on []else [])) λx=>EU (acc++[x]) r
def Ht:aN->aE gK->aY
 |_,[]=>ao
 |i,o::r=>(o.after.toList.all λe=> !Region.binds .any e||Nat.blt e.on i)&&Ht (i+1) r
def Ba(a b:Lg):aY:= !(qT a.ws b.ws&&qT a.ws b.rs&&qT b.ws a.rs)
def z8(an:aE aN)(j:aN)(a:Lg):aN->aE Lg->aY
 |_,[]=>ao
 |i,b::r=>(ma i an|| !Ba a b)&&z8 an j a (i+1) r
def calm:aN->aE (aE aN)->aE Lg->aE Lg->aY
 |_,_,_,[]=>ao
 |j,an,done,a::r=>z8 (an.getD j []) j a 0 done&&calm (j+1) an (done++[a]) r
def Ae{R:Type}:aE Lg->(aE Lg->R)->R
 |[],f=>f []|a::r,f=>mm a.rs λrs=>mm a.ws λws=>Ae r λr=>f (⟨rs,ws⟩::r)
theorem Bk:∀(l:aE Lg) (f:aE Lg->R),Ae l f=f l
 |[],_=>rfl
 |n::r,f=>by simp only[Ae,oq,Bk r]
def KS(an:aE (aE aN))(l:aE Lg):aY:=Af an λan=>Ae l λl=>calm 0 an [] l
theorem P0(an:aE (aE aN))(l:aE Lg):KS an l=calm 0 an [] l:=by simp only[KS,Bl,Bk]
def bL:AV->aE aN
 |.own n=>[n]|.vw n _ _=>[n]|.bp n _=>[n]|.rp n _ _=>[n]|.lR n _ _=>[n]|.ip n _ _ _ _=>[n]|.iv n _ _ _ _=>[n]|_=>[]
def cF:SV->aE aN
 |.v _ xs=>xs.flatMap bL|.jS l=>l.flatMap λ(_,xs)=>xs.flatMap bL|.un=>[]
def TZ:aE aN->aE aN->aE aN
 |l,[]=>l
 |l,n::r=>mm (bif ma n l then l else l++[n]) λl=>TZ l r
def slot(σ:St)(n:aN):SV:=match σ (pW n)with|.v x=>x|_=>.un
def afk(σ:St)(nm:aN):aE aN:=match σ (c6 nm)with|.o (.box xs)=>xs.flatMap bL|_=>[]
def idx(n:aN):aN->aE aN->aA aN
 |_,[]=>aj|i,m::r=>bif bK n m then ai i else idx n (i+1) r
def enc(f:aY)(k:aN):aN:=bif f then k*1000+999 else k
def uI(l:aE aN)(n:aN):aA aN:=bif eS 900000000 n then(bif ma n l then ai n else aj)else(match idx n 0 l with|some k=>ai (enc (vr n) k)|none=>aj)
def oX(l:aE aN)(a:AV):AV:=
 match a with
 |.own n=>match uI l n with|some k=>.own k|none=>.nl
 |.vw n lo hi=>match uI l n with|some k=>.vw k lo hi|none=>.nl
 |.bp n j=>match uI l n with|some k=>.bp k j|none=>.nl
 |.rp n i j=>match uI l n with|some k=>.rp k i j|none=>.nl
 |.lR n i j=>match uI l n with|some k=>.lR k i j|none=>.nl
 |.ip n i j d f=>match uI l n with|some k=>.ip k i j d f|none=>.nl
 |.iv n i j lo hi=>match uI l n with|some k=>.iv k i j lo hi|none=>.nl
 |a=>a
def yz(l:aE aN)(ns:aE aN):aY:=ns.all λn=>ma n l
def DI(l:aE aN)(v:SV):SV:=
 bif yz l (cF v)then(match v with
 |.v agg xs=>.v agg (xs.map (oX l))|.jS r=>.jS (r.map λ(g,xs)=>(g,xs.map (oX l)))|.un=>.un)else .un
def Nu(l:aE aN)(o:eW):eW:=
 match o with
 |.o (.box xs)=>bif yz l (xs.flatMap bL)then .o (.box (xs.map (oX l)))else .o .dead
 |.o x=>.o x
 |_=>.o .dead
def eP:aE (aN×eW)->St
 |[],_=>.jw
 |(k,c)::r,n=>bif bK n k then c else eP r n
def vg(σ:St)(l:aE aN):aE aN->aE (aN×eW)
 |[]=>[]|n::r=>match uI l n with|some k=>(c6 k,Nu l (σ (c6 n)))::vg σ l r|none=>vg σ l r
def ID(keep:aE aN)(σ:St):aE aN:=
 mm (TZ [] (keep.flatMap λn=>cF (slot σ n))) λd=>mm (TZ d (d.flatMap (afk σ))) λl1=>TZ l1 (l1.flatMap (afk σ))
def IC(keep:aE aN)(σ:St)(l:aE aN):aE (aN×eW):=
 bif eS l.length 900 then keep.map (λn=>(pW n,.v (DI l (slot σ n))))++vg σ l l else []
def UC(x:aN):aY:=eS 1000000000000000 x
def Yr(x:aN):aN:=(x/1000000)%1000000000
def QK(x:aN):aN:=(x/1000)%1000
def kTy(x:aN):aN:=x%1000
def kNm(x:aN):aN:=800000000+((x/1000)%1000000)*100
def zf{α:Type}(x:aN)(σ:St)(f:St->α):α:=
 match slot σ (Yr x)with
 |.v aq [.bp nm 0]=>match σ (c6 nm),σ (c6 (kNm x))with
  |.o (.box xs),.jw=>match xs[QK x]? with
   |some .nl=>oS (xs.set (QK x) (.own (kNm x))) λd=>f (ox (ox σ (c6 nm) (.o (.box d))) (c6 (kNm x)) (.o (.row (kTy x) ao [])))
   |_=>f σ
  |_,_=>f σ
 |_=>f σ
def Ls{α:Type}:aE aN->St->(St->α)->α
 |[],σ,f=>f σ
 |x::r,σ,f=>bif UC x then zf x σ (λσ=>Ls r σ f)else Ls r σ f
def IE(keep:aE aN)(σ:St):aE (aN×eW):=Ls keep σ λσ=>mm (keep.filter λx=> !UC x) λkeep=>mm (ID keep σ) λl=>IC keep σ l
def canon(keep:aE aN)(σ:St):St:=eP (IE keep σ)
def fW.zd(E:fW)(n:aN):aE aN:=(E.keep n).filter λx=>bif UC x then(match E.ty (kTy x)with|some _=>ao|none=>aq)else ao
def gk:Code->aN
 |.region id _ _=>id|.seq a _=>gk a|.block _ c=>gk c|.scope c=>gk c|_=>0
def Dw{R:Type}(g:St->aA R)(cn:St->St)(K:Ex->St->aA R):Ex->St->aA R
 |.normal,σ=>g (cn σ)
 |e,σ=>K e (cn σ)
def iter{R:Type}(f:St->(Ex->St->aA R)->aA R)(cn:St->St):aN->St->(Ex->St->aA R)->aA R
 |0,_,_=>aj
 |n+1,σ,K=>f σ (Dw (λs=>iter f cn n s K) cn K)
theorem MZ(f:St->(Ex->St->aA R)->aA R)(cn:St->St)(n:aN)(σ:St)(K:Ex->St->aA R):iter f cn (n+1) σ K=f σ (Dw (λs=>iter f cn n s K) cn K):=rfl
abbrev It(R:Type):=aN->(St->(Ex->St->aA R)->aA R)->(St->St)->aE (aN×eW)->(Ex->St->aA R)->aA R
def alU{R:Type}(n:aN):It R:=λ_ f cn L K=>iter f cn n (eP L) K
def ak7{R:Type}(f:St->(Ex->St->aA R)->aA R)(K:Ex->St->aA R):Ex->St->aA R
 |.normal,σ=>f σ K
 |e,σ=>K e σ
def ajE{R:Type}(id:aN)(K:Ex->St->aA R):Ex->St->aA R
 |.exit j,σ=>bif bK j id then K .normal σ else K (.exit j) σ
 |e,σ=>K e σ
def sM{R:Type}(E:fW)(it:It R):Code->St->(Ex->St->aA R)->aA R
 |.skip,σ,K=>K .normal σ
 |.region id os d,σ,K=>ops E os id 0 os.toList σ [] λσ f=>bif !d||(Ht 0 os.toList&&KS (EU [] os.toList) f.reverse)then K .normal σ else aj
 |.seq a b,σ,K=>sM E it a σ (ak7 (sM E it b) K)
 |.cond c a b,σ,K=>match c with
  |.tmp t=>match σ (pW t)with
   |.v (.v aq [.b x])=>bif x then(sM E it a (ox σ (pW t) (.v (.v aq [.b ao]))) K)else(sM E it b (ox σ (pW t) (.v (.v aq [.b aq]))) K)
   |_=>aj
  |_=>aj
 |.block id c,σ,K=>sM E it c σ (ajE id K)
 |.loop c,σ,K=>it (gk c) (sM E it c) (canon (E.zd (gk c))) (IE (E.zd (gk c)) σ) K
 |.exit id,σ,K=>K (.exit id) σ
 |.ret,σ,K=>K .ret σ
 |_,_,_=>aj
def jH:Code->aE Code
 |.seq a b=>jH a++jH b
 |.cond _ a b=>jH a++jH b
 |.block _ c=>jH c
 |.loop c=>c::jH c
 |_=>[]
def Br(d:aN):Code->aA Code
 |.seq a b=>match Br d a with|some r=>ai r|none=>Br d b
 |.cond _ a b=>match Br d a with|some r=>ai r|none=>Br d b
 |.block _ c=>Br d c
 |.loop c=>bif bK (gk c) d then ai c else Br d c
 |_=>aj
def bQ(F:Func)(d:aN):Code:=((F.body.bind (Br d)).getD .skip)
end Go.FG
namespace Go.FG
def dF(p j:aN):aN:=900000000+p*1000+j
def kO(nm:aN)(a:AA):AV:=
 match a with
 |.i k n=>.i k n|.b x=>.b x|.s x=>.s x|.sh e xs=>.sh e xs|.nl=>.nl
 |.ow _ _ _=>.own nm|.kp _=>.nl|.fn f d=>.fn f d
def Dv(nm:aN)(a:AA):aE (aN×eW):=match a with|.ow e ex xs=>[(c6 nm,.o (.row e ex xs))]|_=>[]
def gf(nm:aN):aE AA->aE AV
 |[]=>[]|a::r=>kO nm a::gf (nm+1) r
def sQ(nm:aN):aE AA->aE (aN×eW)
 |[]=>[]|a::r=>Dv nm a++sQ (nm+1) r
def rL(p:aN)(a:gg):SV:=
 match a with
 |.v agg xs=>.v agg (gf (dF p 0) xs)
 |.pt _=>.v aq [.bp (dF p 900) 0]
 |.fb xs=>.v aq [.fp xs 0]
def uF(p:aN)(a:gg):aE (aN×eW):=
 match a with
 |.v _ xs=>sQ (dF p 0) xs
 |.pt xs=>(c6 (dF p 900),.o (.box (gf (dF p 0) xs)))::sQ (dF p 0) xs
 |.fb _=>[]
def I8:aN->aE gg->aE (aN×eW)
 |_,[]=>[]|p,a::r=>(pW p,.v (rL p a))::uF p a++I8 (p+1) r
def inj(args:aE gg):St:=eP (I8 0 args)
def zc(E:fW)(e:aN):aY:=match E.ty e with|some _=>ao|none=>aq
def zb(E:fW)(om:Om)(σ:St)(k:Ck)(a:AV):aA (AA×aE aN×aE aN):=
 match a with
 |.i k n=>ai (.i k n,[],[])|.b x=>ai (.b x,[],[])|.s x=>ai (.s x,[],[])
 |.sh e xs=>match om with|.own _=>aj|_=>ai (.sh e xs,[],[])
 |.nl=>match om with
  |.own e=>bif zc E e then ai (.ow e ao [],[],[])else aj
  |.sh e=>ai (.sh e [],[],[])
  |.nat=>match k with|.l e=>bif zc E e then ai (.ow e ao [],[],[])else aj|_=>ai (.nl,[],[])
 |.own nm=>match σ (c6 nm)with
  |.o (.row e ex xs)=>match om with|.sh _=>ai (.sh e xs,[],[nm])|_=>ai (.ow e ex xs,[nm],[])
  |.o (.fL e xs)=>match om with|.own _=>aj|_=>ai (.sh e xs,[],[])
  |_=>aj
 |.vw nm lo hi=>match σ (c6 nm)with
  |.o (.row e ex xs)=>match om with|.sh _=>ai (.sh e (dR xs lo hi),[],[nm])|_=>ai (.ow e ex (dR xs lo hi),[nm],[])
  |.o (.fL e xs)=>match om with|.own _=>aj|_=>ai (.sh e (dR xs lo hi),[],[])
  |_=>aj
 |_=>aj
def sN(E:fW)(q:aN)(σ:St):aN->aE Ck->aE AV->aA (aE AA×aE aN×aE aN)
 |_,_,[]=>ai ([],[],[])
 |j,ks,a::r=>match zb E (E.om q j) σ (ks.headD .o) a,sN E q σ (j+1) ks.tail r with
  |some (x,l,m),ai (xs,ls,ms)=>ai (x::xs,l++ls,m++ms)
  |_,_=>aj
def Lb(E:fW)(q:aN)(σ:St)(ks:aE Ck)(v:SV):aA (gg×aE aN×aE aN):=
 match v with
 |.v aq [.bp nm 0]=>match σ (c6 nm)with
  |.o (.box xs)=>match sN E q σ 0 [] xs with|some (l,ns,ms)=>ai (.pt l,nm::ns,ms)|none=>aj
  |_=>aj
 |.v agg xs=>match sN E q σ 0 ks xs with|some (l,ns,ms)=>ai (.v agg l,ns,ms)|none=>aj
 |_=>aj
def RI(E:fW)(q:aN)(σ:St)(r:ResultVar)(t:aN):aA (gg×aE aN×aE aN):=
 match E.ty t with
 |none=>aj
 |some ti=>match r with
  |.tmp s=>Lb E q σ ti.ks (slot σ s)
  |.cell a f=>match E.ty f,slot σ a with
   |some d,.v aq [.bp nm 0]=>match σ (c6 nm)with|.o (.box xs)=>bif bK xs.length d.ks.length then Lb E q σ ti.ks (.v d.agg xs)else aj|_=>aj
   |_,_=>aj
def BR(E:fW)(σ:St):aN->aE ResultVar->aE aN->aA (aE gg×aE aN×aE aN)
 |_,[],_=>ai ([],[],[])
 |q,r::rs,ts=>match RI E q σ r (ts.headD 0),BR E σ (q+1) rs ts.tail with
  |some (a,l,m),ai (as,ls,ms)=>ai (a::as,l++ls,m++ms)
  |_,_=>aj
def HH(a b:aY):aY:=bif a then b else !b
def mP(σ:St)(tk:aE aN)(nm:aN)(a:AA):AA×aE aN:=
 match a with
 |.ow e ex _=>bif ma nm tk then(.nl,[])else(match σ (c6 nm)with|.o (.row f d xs)=>bif bK e f&&HH ex d then(.kp xs,[nm])else(.nl,[])|_=>(.nl,[]))
 |_=>(.nl,[])
def pr(σ:St)(tk:aE aN)(nm:aN):aE AA->aE AA×aE aN
 |[]=>([],[])|a::r=>((mP σ tk nm a).1::(pr σ tk (nm+1) r).1,(mP σ tk nm a).2++(pr σ tk (nm+1) r).2)
def Xt(E:fW)(om:Om)(σ:St)(nm:aN)(b:AA)(a:AV):aA (AA×aE aN×aE aN):=
 match om,b,a with
 |.nat,.ow e ex _,.own n=>bif bK n nm then(match σ (c6 n)with|.o (.row f d xs)=>bif bK e f&&HH ex d then ai (.kp xs,[n],[])else aj|_=>aj)else zb E om σ .o a
 |_,_,a=>zb E om σ .o a
def EZ(E:fW)(q:aN)(σ:St):aN->aE AA->aE AV->aA (aE AA×aE aN×aE aN)
 |_,_,[]=>ai ([],[],[])
 |j,d,a::r=>match Xt E (E.om q j) σ (dF q j) (d.headD .nl) a,EZ E q σ (j+1) d.tail r with
  |some (x,l,m),ai (xs,ls,ms)=>ai (x::xs,l++ls,m++ms)
  |_,_=>aj
def Qm:aE AA->aY
 |[]=>aq|.ow _ _ _::_=>ao|_::r=>Qm r
def BL(E:fW)(σ:St)(tk:aE aN):aN->aE gg->aA (aE (aE AA)×aE aN×aE aN)
 |_,[]=>ai ([],[],[])
 |p,a::r=>match BL E σ tk (p+1) r with
  |none=>aj
  |some (l,ns,ms)=>match a with
   |.v _ xs=>bif Qm xs then ai ((pr σ tk (dF p 0) xs).1::l,(pr σ tk (dF p 0) xs).2++ns,ms)else ai ([]::l,ns,ms)
   |.pt xs=>match σ (c6 (dF p 900))with
    |.o (.box vs)=>match EZ E p σ 0 xs vs with|some (as,f,d)=>ai (as::l,dF p 900::(f++ns),d++ms)|none=>aj
    |_=>aj
   |.fb _=>ai ([]::l,ns,ms)
def tD:aE (aE AA)->aE (aE AA)
 |[]=>[]
 |x::r=>match x,tD r with|[],[]=>[]|x,r=>x::r
def fin(E:fW)(F:Func)(args:aE gg)(e:Ex)(σ:St):aA iQ:=
 match e with
 |.exit _=>aj
 |_=>match BR E σ 500 F.results.toList F.resultTypes.toList with
  |some (rs,tk,fz)=>match BL E σ (tk++fz) 0 args with
   |some (outs,ns,ms)=>bif sV (tk++ns)&&qT (tk++ns) (fz++ms)&&eS args.length 500&&(args.all λa=>eS (mM a) 100)&&(rs.all λa=>eS (mM a) 100)&&(outs.all λa=>eS a.length 100)then ai ⟨rs,tD outs⟩else aj
   |none=>aj
  |none=>aj
def body(E:fW)(it:It iQ)(F:Func)(args:aE gg):aA iQ:=
 match F.body with
 |some c=>sM E it c (inj args) (fin E F args)
 |none=>aj
end Go.FG
namespace Go.FG
structure Pl where
 nil:aY
 blk:aN
 off:aN
 cap:aN
 n:aN
 sz:aN
def j5(p:Pl):bP:=if p.nil=ao then .slice aj 0 0 else .slice (ai ⟨p.blk,p.off,aj⟩) p.n p.cap
def nb(w:cB)(b:aN)(d:eF bP):Prop:=
 ∃t fr,w.heap[b]? =ai (.cells d t fr)/\∀o,o<=d.size->(ah (fr.1<=o)&&ah (o<fr.2))=aq
def ND:CV->bP
 |.i k n=>.int k n|.b x=>.bool x|.s x=>.string x|.l _ _=>.nilIface
def Co(x:au):Prop:=x.size<=4611686018427387904
def okC:CV->Prop
 |.s x=>Co x|_=>True
def Sc(u:bP)(x:CV):Prop:=u=ND x/\okC x
structure gn where
 P:aN->Pl
 G:aN->aN->aN->Pl
 K:aN->Prop
abbrev ad(b o:aN):Addr:=⟨b,o,aj⟩
inductive Holds (E:Tab) (w:cB) (K:aN->Prop):bP->CV->Prop
 |i (k n):Holds E w K (.int k n) (.i k n)
 |b (x):Holds E w K (.bool x) (.b x)
 |s (x) (h:Co x):Holds E w K (.string x) (.s x)
 |nl (e A c):Holds E w K (.slice A 0 c) (.l e [])
 |l (e xs b o c ti) (U:aN->aN->bP) (ht:E.ty e=ai ti) (hc:xs.length<=c) (hm:c<=maxLen) (hK:K b) (hs:∀y∈xs,y.map CV.kd=ti.ks)
  (hcell:∀i j y x,xs[i]? =ai y->y[j]? =ai x->w.cell? (ad b (o+i*ti.ks.length+j))=ai (U i j))
  (hin:∀i j y x,xs[i]? =ai y->y[j]? =ai x->Holds E w K (U i j) x):Holds E w K (.slice (ai (ad b o)) xs.length c) (.l e xs)
theorem nb.cell(h:nb w b d)(o:aN):w.cell? (ad b o)=d[o]? :=by obtain⟨t,fr,h,_⟩:=h;simp[Mr,h]
theorem nb.lt(h:nb w b d):b<w.heap.size:=by obtain⟨t,fr,h,_⟩:=h;exact(dr.1 h).1
theorem nb.free(h:nb w b d)(i:o<d.size):w.frozen? (ad b o)=false:=by obtain⟨t,fr,h,f⟩:=h;have:=f o (Nat.le_of_lt i);simpa [WV,h]using this
theorem nb.frame(h:nb w b d)(e:w'.heap[b]? =w.heap[b]?):nb w' b d:=by obtain⟨t,fr,h,f⟩:=h;exact⟨t,fr,e.trans h,f⟩
theorem Holds.frame(h:Holds E w K v x)(B:∀b,K b->w'.heap[b]? =w.heap[b]?)(t:∀b,K b->r b):Holds E w' r v x:=by
 induction h with
 |i=>exact .i _ _
 |b=>exact .b _
 |s x h=>exact .s _ h
 |nl=>exact .nl _ _ _
 |l e xs b o c ti U A u hm f hs d z ih=>exact .l e xs b o c ti U A u hm (t b f) hs (λi j y x k m=>(uz (a:=ad b _) (B b f)).trans (d i j y x k m)) (λi j y x k m=>ih i j y x k m)
structure iO (w:cB) (p:Pl) (xs:Row) (R:aN->aN->bP->CV->Prop):Prop where
 n:p.n=xs.length
 nil:p.nil=ao->xs=[]/\p.cap=0
 mem:p.nil=aq->∃gv,nb w p.blk gv/\p.n<=p.cap/\p.cap<=maxLen/\p.off+p.cap*p.sz<=gv.size/\
  ∀(i:aN) (y:aE CV) (j:aN) (x:CV),xs[i]? =ai y->y[j]? =ai x->∃u:bP,gv[p.off+i*p.sz+j]? =ai u/\R i j u x
def XC(E:Tab)(w:cB)(G:aN->aN->Pl)(i j:aN)(u:bP):CV->Prop
 |.l e d=>u=j5 (G i j)/\∃ti,E.ty e=ai ti/\plain ti.ks=ao/\(G i j).sz=ti.ks.length/\(∀y∈d,y.map CV.kd=ti.ks)/\iO w (G i j) d (λ_ _ u x=>Sc u x)
 |x=>Sc u x
def tE:CV->aY|.l _ _=>ao|_=>aq
def fT(xs:Row)(i j:aN):Prop:=∃y x,xs[i]? =ai y/\y[j]? =ai x/\tE x=ao
structure D_ (p:Pl) (G:aN->aN->Pl) (xs:Row):Prop where
 out:∀i j,fT xs i j->(G i j).nil=aq->p.nil=aq->(G i j).blk≠p.blk
 one:∀i j i' j',fT xs i j->fT xs i' j'->(G i j).nil=aq->(G i' j').nil=aq->(G i j).blk=(G i' j').blk->i=i'/\j=j'
structure Kn (E:Tab) (w:cB) (c:gn) (nm e:aN) (ex:aY) (xs:Row):Prop where
 sh:∃ti,E.ty e=ai ti/\(c.P nm).sz=ti.ks.length/\∀y∈xs,y.map CV.kd=ti.ks
 at_:iO w (c.P nm) xs (λi j u x=>if ex=ao then XC E w (c.G nm) i j u x else Holds E w c.K u x)
 lR:ex=ao->D_ (c.P nm) (c.G nm) xs
def FB(E:Tab)(w:cB)(K:aN->Prop)(b:aN)(cs:aE CV):Prop:=
 K b/\∀(q:aN) (x:CV),cs[q]? =ai x->∃u:bP,w.cell? (ad b q)=ai u/\Holds E w K u x
def u6(p:Pl)(lo hi:aN)(v:bP):Prop:=
 lo<=hi/\hi<=p.n/\(p.nil=ao->v=.slice aj 0 0)/\
 (p.nil=aq->(lo<p.cap/\v=.slice (ai (ad p.blk (p.off+lo*p.sz))) (hi-lo) (p.cap-lo))\/(lo=p.cap/\∃o,o<=p.off+p.cap*p.sz/\v=.slice (ai (ad p.blk o)) 0 0))
def ed(E:Tab)(w:cB)(c:gn):AV->bP->Prop
 |.i k n,v=>v=.int k n
 |.b x,v=>v=.bool x
 |.s x,v=>v=.string x/\Co x
 |.sh e xs,v=>Holds E w c.K v (.l e xs)
 |.nl,v=>v=.slice aj 0 0
 |.own nm,v=>v=j5 (c.P nm)
 |.vw nm lo hi,v=>u6 (c.P nm) lo hi v
 |.bp nm j,v=>v=.pointer (ai (ad (c.P nm).blk j))
 |.rp nm i j,v=>i<(c.P nm).n/\v=.pointer (ai (ad (c.P nm).blk ((c.P nm).off+i*(c.P nm).sz+j)))
 |.sp e xs i j,v=>∃b o cp ti,Holds E w c.K (.slice (ai (ad b o)) xs.length cp) (.l e xs)/\i<xs.length/\E.ty e=ai ti/\v=.pointer (ai (ad b (o+i*ti.ks.length+j)))
 |.lR nm i j,v=>(i<(c.P nm).n/\v=j5 (c.G nm i j))/\vr nm=aq
 |.ip nm i j h m,v=>(i<(c.P nm).n/\h<(c.G nm i j).n/\v=.pointer (ai (ad (c.G nm i j).blk ((c.G nm i j).off+h*(c.G nm i j).sz+m))))/\vr nm=aq
 |.iv nm i j lo hi,v=>(i<(c.P nm).n/\u6 (c.G nm i j) lo hi v)/\vr nm=aq
 |.fn f d,v=>∃ps:eF bP,v=.func (.func f) #[] ps/\ps.size=d.length/\∀(q:aN) (cs:aE CV),d[q]? =ai cs->∃b:aN,ps[q]? =ai (.pointer (ai (ad b 0)))/\FB E w c.K b cs
 |.fp cs j,v=>∃b,v=.pointer (ai (ad b j))/\FB E w c.K b cs
def pO(E:Tab)(w:cB)(c:gn)(agg:aY)(xs:aE AV)(v:bP):Prop:=
 match agg,xs with
 |false,[a]=>ed E w c a v
 |true,xs=>∃d:eF bP,v=.agg d/\d.size=xs.length/\∀(j:aN) (a:AV),xs[j]? =ai a->∃u:bP,d[j]? =ai u/\ed E w c a u
 |_,_=>False
def iM(E:Tab)(w:cB)(c:gn):SV->bP->Prop
 |.v agg xs,v=>pO E w c agg xs v
 |.jS l,v=>∃vs:eF bP,v=.tuple vs/\vs.size=l.length/\∀(j:aN) (agg:aY) (xs:aE AV),l[j]? =ai (agg,xs)->∃u:bP,vs[j]? =ai u/\pO E w c agg xs u
 |.un,_=>True
def ph(E:Tab)(w:cB)(c:gn)(nm:aN):Obj->Prop
 |.box xs=>∃d,nb w (c.P nm).blk d/\d.size=xs.length/\∀(j:aN) (a:AV),xs[j]? =ai a->∃u:bP,d[j]? =ai u/\ed E w c a u
 |.nI cs=>FB E w c.K (c.P nm).blk cs
 |.row e ex xs=>Kn E w c nm e ex xs
 |.fL e xs=>Holds E w c.K (j5 (c.P nm)) (.l e xs)/\(c.P nm).n=xs.length/\∃ti,E.ty e=ai ti/\(c.P nm).sz=ti.ks.length
 |.dead=>True
def fu(c:gn)(nm:aN):Obj->aN->Prop
 |.box _,b=>b=(c.P nm).blk
 |.row _ ex xs,b=>((c.P nm).nil=aq/\b=(c.P nm).blk)\/(ex=ao/\∃i j,fT xs i j/\(c.G nm i j).nil=aq/\b=(c.G nm i j).blk)
 |_,_=>False
def Own(σ:St)(c:gn)(b:aN):Prop:=∃nm o,σ (c6 nm)=.o o/\fu c nm o b
def iU(σ:St)(a:AV):Prop:=∀n∈bL a,σ (c6 n)≠ .jw
def mf(σ:St)(v:SV):Prop:=∀n∈cF v,σ (c6 n)≠ .jw
structure Ok (E:Tab) (σ:St) (w:cB) (c:gn):Prop where
 obj:∀nm o,σ (c6 nm)=.o o->ph E w c nm o
 sep:∀nm o nm' o' b,σ (c6 nm)=.o o->σ (c6 nm')=.o o'->fu c nm o b->fu c nm' o' b->nm=nm'
 kk:∀nm o b,σ (c6 nm)=.o o->fu c nm o b->¬c.K b
 lt:∀b,c.K b->b<w.heap.size
 kn:∀nm xs,σ (c6 nm)=.o (.box xs)->∀a∈xs,iU σ a
 gp:E.gp.f w c.K
structure e6 (E:Tab) (σ:St) (a:Act) (w:cB) (c:gn):Prop where
 ok:∀n,iM E w c (slot σ n) (a.eval (.tmp n))
 kn:∀n,mf σ (slot σ n)
 df:a.defers=[]
def ji(σ:St)(c c':gn):Prop:=∀nm,(σ (c6 nm)≠ .jw\/900000000<=nm)->c'.P nm=c.P nm/\c'.G nm=c.G nm
def pE(σ:St)(c c':gn):Prop:=∀nm,(σ (c6 nm)≠ .jw\/900000000<=nm)->c'.P nm=c.P nm/\(vr nm=aq->c'.G nm=c.G nm)
theorem ji.w(h:ji σ c c'):pE σ c c':=λnm d=>⟨(h nm d).1,λ_=>(h nm d).2⟩
structure Grow (σ:St) (c:gn) (w:cB) (σ':St) (c':gn) (w':cB):Prop where
 os:w'.os=w.os
 tape:w'.tape=w.tape
 output:w'.output=w.output
 size:w.heap.size<=w'.heap.size
 K:∀b,c.K b->c'.K b
 same:∀b,b<w.heap.size->¬Own σ c b->w'.heap[b]? =w.heap[b]?
 own:∀b,Own σ' c' b->Own σ c b\/w.heap.size<=b
 kn:∀b,c'.K b->c.K b\/Own σ c b\/w.heap.size<=b
theorem Own.lt(h:Ok E σ w c)(I:Own σ c b):b<w.heap.size:=by
 obtain⟨nm,o,C,k⟩:=I;have d:=h.obj nm o C;cases o with
 |box xs=>obtain⟨f,m,_⟩:=d;cases k;exact m.lt
 |nI=>exact k.elim
 |fL=>exact k.elim
 |dead=>exact k.elim
 |row e ex xs=>
  rcases k with ⟨z,rfl⟩|⟨t,i,j,⟨y,x,B,M,hl⟩,z,rfl⟩
  ·obtain⟨f,m,_⟩:=d.at_.mem z;exact m.lt
  ·by_cases hp:(c.P nm).nil=ao
   ·have:=(d.at_.nil hp).1;subst this;simp at B
   ·obtain⟨f,m,_,_,_,H⟩:=d.at_.mem (by simpa using hp);obtain⟨u,_,A⟩:=H i y j x B M;rw[bm t]at A;cases x with
    |l N Q=>obtain⟨_,ti,_,_,_,_,K⟩:=A;obtain⟨O,r,_⟩:=K.mem z;exact r.lt
    |i=>simp[tE]at hl
    |b=>simp[tE]at hl
    |s=>simp[tE]at hl
theorem Ok.Fy(h:Ok E σ w c)(i:Own σ c b):¬c.K b:=by obtain⟨nm,o,d,f⟩:=i;exact h.kk nm o b d f
theorem Grow.refl(σ:St)(c:gn)(w:cB):Grow σ c w σ c w:=
 ⟨rfl,rfl,rfl,bT _,λ_ h=>h,λ_ _ _=>rfl,λ_ h=>.inl h,λ_ h=>.inl h⟩
theorem Grow.trans(h:Grow σ c w σ1 j w1)(k:Grow σ1 j w1 σ2 c2 r):Grow σ c w σ2 c2 r where
 os:=k.os.trans h.os
 tape:=k.tape.trans h.tape
 output:=k.output.trans h.output
 size:=cf h.size k.size
 K b d:=k.K b (h.K b d)
 same b d i:=(k.same b (iB d h.size) (λm=>(h.own b m).elim i (λh=>by omega))).trans (h.same b d i)
 own b d:=(k.own b d).elim (h.own b) (λf=>.inr (cf h.size f))
 kn b d:=by
  rcases k.kn b d with f|f|f
  ·exact h.kn b f
  ·exact .inr (h.own b f)
  ·exact .inr (.inr (cf h.size f))
theorem Grow.WX(d:Ok E σ w c)(h:Grow σ c w σ' c' w'):∀b,c.K b->w'.heap[b]? =w.heap[b]? :=
 λb f=>h.same b (d.lt b f) (λi=>d.Fy i f)
theorem FB.frame(h:FB E w K b cs)(f:∀b,K b->w'.heap[b]? =w.heap[b]?)(d:∀b,K b->i b):FB E w' i b cs:=
 ⟨d b h.1,λq x hq=>by
  obtain⟨u,k,j⟩:=h.2 q x hq;exact⟨u,(uz (a:=ad b q) (f b h.1)).trans k,j.frame f d⟩⟩
theorem ed.oT(h:ed E w c a v)(t:∀b,c.K b->w'.heap[b]? =w.heap[b]?)(r:∀b,c.K b->c'.K b)
  (d:∀n∈bL a,c'.P n=c.P n/\(vr n=aq->c'.G n=c.G n)):ed E w' c' a v:=by
 cases a with
 |i=>exact h
 |b=>exact h
 |s=>exact h
 |nl=>exact h
 |sh e xs=>exact Holds.frame h t r
 |own n=>have:=d n (by simp[bL]);simp only[ed,this.1]at h⊢;exact h
 |vw n lo hi=>have:=d n (by simp[bL]);simp only[ed,this.1]at h⊢;exact h
 |bp n j=>have:=d n (by simp[bL]);simp only[ed,this.1]at h⊢;exact h
 |rp n i j=>have:=d n (by simp[bL]);simp only[ed,this.1]at h⊢;exact h
 |lR n i j=>have h0:=d n (by simp[bL]);have this:=h0.2 h.2;simp only[ed,h0.1,this]at h⊢;exact h
 |ip n i j B C=>have h0:=d n (by simp[bL]);have this:=h0.2 h.2;simp only[ed,h0.1,this]at h⊢;exact h
 |iv n i j lo hi=>have h0:=d n (by simp[bL]);have this:=h0.2 h.2;simp only[ed,h0.1,this]at h⊢;exact h
 |sp e xs i j=>obtain⟨b,o,cp,ti,k,m,u,y⟩:=h;exact⟨b,o,cp,ti,k.frame t r,m,u,y⟩
 |fn f x=>obtain⟨ps,k,m,u⟩:=h;exact⟨ps,k,m,λq cs hq=>by obtain⟨b,z,A⟩:=u q cs hq;exact⟨b,z,A.frame t r⟩⟩
 |fp cs j=>obtain⟨b,k,m⟩:=h;exact⟨b,k,m.frame t r⟩
theorem pO.oT(h:pO E w c agg xs v)(r:∀b,c.K b->w'.heap[b]? =w.heap[b]?)(i:∀b,c.K b->c'.K b)
  (k:∀n∈xs.flatMap bL,c'.P n=c.P n/\(vr n=aq->c'.G n=c.G n)):pO E w' c' agg xs v:=by
 unfold pO at h⊢;split at h
 ·rename_i a;exact ed.oT h r i (λn f=>k n (by simpa using f))
 ·obtain⟨d,s,t,x⟩:=h;refine⟨d,s,t,λj a m=> ?_⟩
  obtain⟨u,y,z⟩:=x j a m;exact⟨u,y,z.oT r i (λn f=>k n (bM.2 ⟨a,aU m,f⟩))⟩
 ·exact h.elim
theorem iM.oT(h:iM E w c s v)(k:∀b,c.K b->w'.heap[b]? =w.heap[b]?)(d:∀b,c.K b->c'.K b)
  (f:∀n∈cF s,c'.P n=c.P n/\(vr n=aq->c'.G n=c.G n)):iM E w' c' s v:=by
 cases s with
 |un=>trivial
 |v agg xs=>exact pO.oT h k d f
 |jS l=>
  obtain⟨vs,m,r,t⟩:=h;refine⟨vs,m,r,λj agg xs i=> ?_⟩
  obtain⟨u,y,z⟩:=t j agg xs i;exact⟨u,y,z.oT k d (λn x=>f n (bM.2 ⟨(agg,xs),aU i,x⟩))⟩
theorem ed.frame(h:ed E w c a v)(j:∀b,c.K b->w'.heap[b]? =w.heap[b]?)(i:∀b,c.K b->c'.K b)
  (d:∀n∈bL a,c'.P n=c.P n/\c'.G n=c.G n):ed E w' c' a v:=h.oT j i (λn f=>⟨(d n f).1,λ_=>(d n f).2⟩)
theorem pO.frame(h:pO E w c agg xs v)(j:∀b,c.K b->w'.heap[b]? =w.heap[b]?)(i:∀b,c.K b->c'.K b)
  (d:∀n∈xs.flatMap bL,c'.P n=c.P n/\c'.G n=c.G n):pO E w' c' agg xs v:=h.oT j i (λn f=>⟨(d n f).1,λ_=>(d n f).2⟩)
theorem iM.frame(h:iM E w c s v)(j:∀b,c.K b->w'.heap[b]? =w.heap[b]?)(i:∀b,c.K b->c'.K b)
  (d:∀n∈cF s,c'.P n=c.P n/\c'.G n=c.G n):iM E w' c' s v:=h.oT j i (λn f=>⟨(d n f).1,λ_=>(d n f).2⟩)
theorem iO.frame(h:iO w p xs R)(H:p.nil=aq->w'.heap[p.blk]? =w.heap[p.blk]?)
  (A:∀i j y x u,xs[i]? =ai y->y[j]? =ai x->R i j u x->R' i j u x):iO w' p xs R' where
 n:=h.n
 nil:=h.nil
 mem k:=by
  obtain⟨d,m,r,s,t,z⟩:=h.mem k;refine⟨d,m.frame (H k),r,s,t,λi y j x hi f=> ?_⟩
  obtain⟨u,C,B⟩:=z i y j x hi f;exact⟨u,C,A i j y x u hi f B⟩
theorem XC.frame(h:XC E w G i j u x)(y:tE x=ao->(G i j).nil=aq->w'.heap[(G i j).blk]? =w.heap[(G i j).blk]?):XC E w' G i j u x:=by
 cases x with
 |l e z=>obtain⟨d,ti,f,k,m,r,t⟩:=h;exact⟨d,ti,f,k,m,r,t.frame (y rfl) (λ_ _ _ _ _ _ _ h=>h)⟩
 |i=>exact h
 |b=>exact h
 |s=>exact h
theorem ph.frame(h:ph E w c nm o)(A:∀b,c.K b->w'.heap[b]? =w.heap[b]?)(s:∀b,c.K b->c'.K b)
  (C:∀b,fu c nm o b->w'.heap[b]? =w.heap[b]?) (d:c'.P nm=c.P nm/\c'.G nm=c.G nm)
  (B:∀xs,o=.box xs->∀a∈xs,∀n∈bL a,c'.P n=c.P n/\(vr n=aq->c'.G n=c.G n)):ph E w' c' nm o:=by
 cases o with
 |dead=>trivial
 |box xs=>
  obtain⟨r,f,k,m⟩:=h;refine⟨r,?_,k,λj a t=> ?_⟩
  ·rw[d.1];exact f.frame (C _ rfl)
  ·obtain⟨u,M,N⟩:=m j a t;exact⟨u,M,N.oT A s (B xs rfl a (aU t))⟩
 |nI cs=>show FB E w' c'.K (c'.P nm).blk cs;rw[d.1];exact FB.frame h A s
 |fL e xs=>
  obtain⟨f,k,m⟩:=h;refine⟨?_,?_,?_⟩
  ·rw[d.1];exact f.frame A s
  ·rw[d.1];exact k
  ·rw[d.1];exact m
 |row e ex xs=>
  obtain⟨f,k,m⟩:=h;refine⟨by rw[d.1];exact f,?_,by rw[d.1,d.2];exact m⟩
  rw[d.1,d.2];refine k.frame (λH=>C _ (.inl ⟨H,rfl⟩)) (λi j y x u hi t z=> ?_);by_cases I:ex=ao
  ·rw[bm I]at z⊢;exact z.frame (λhl H=>C _ (.inr ⟨I,i,j,⟨y,x,hi,t,hl⟩,H,rfl⟩))
  ·rw[bh I]at z⊢;exact z.frame A s
end Go.FG
namespace Go.FG
theorem th(s:St)(k:aN)(c:eW):ox s k c k=c:=by simp[ox]
theorem yQ(s:St)(c:eW)(h:n≠k):ox s k c n=s n:=by
 have:bK n k=false:=by
  cases d:bK n k with
  |false=>rfl
  |true=>exact cJ (aX d) h
 simp[ox,this]
theorem rB(n m:aN):pW n≠c6 m:=by unfold pW c6;omega
theorem lM(n m:aN):c6 n≠pW m:=by unfold pW c6;omega
theorem FU(h:pW n=pW m):n=m:=by unfold pW at h;omega
theorem jI(h:c6 n=c6 m):n=m:=by unfold c6 at h;omega
theorem HT(s:St)(d:aN)(c:eW)(m:aN):ox s (pW d) c (c6 m)=s (c6 m):=yQ s c (lM m d)
theorem oc(s:St)(n:aN)(c:eW)(m:aN):ox s (c6 n) c (c6 m)=if m=n then c else s (c6 m):=by
 by_cases h:m=n
 ·subst h;simp[th]
 ·rw[bh h];exact yQ s c (λe=>h (jI e))
theorem iu(s:St)(n:aN)(c:eW)(m:aN):slot (ox s (c6 n) c) m=slot s m:=by unfold slot;rw[yQ s c (rB m n)]
theorem wN(s:St)(d:aN)(v:SV)(m:aN):slot (ox s (pW d) (.v v)) m=if m=d then v else slot s m:=by
 by_cases h:m=d
 ·subst h;simp[slot,th]
 ·rw[bh h];unfold slot;rw[yQ s _ (λe=>h (FU e))]
theorem NI(s:St)(l r:aE (aN×eW)):wr s (l++r)=wr (wr s l) r:=by
 induction l generalizing s with
 |nil=>rfl
 |cons a l ih=>obtain⟨k,c⟩:=a;exact ih _
def Rd.val{α:Type}(m:Rd α)(σ:St):aA α:=(m.run σ []).map (·.1)
theorem kM(m:Rd α)(σ:St):∀l,(m.run σ l).map (·.1)=m.val σ:=by
 induction m with
 |ret a=>intro l;rfl
 |fail=>intro l;rfl
 |get k f ih=>intro l;simp only[Rd.run,Rd.val];rw[ih,ih]
theorem Rd.JS{α:Type}{m:Rd α}{σ:St}{l d:aE aN}{a:α}(h:m.run σ l=ai (a,d)):m.val σ=ai a:=by rw[<-kM m σ l,h];rfl
@[simp] theorem Rd.ait {α:Type} (a:α) (σ:St):(Rd.ret a).val σ=some a:=rfl
@[simp] theorem Rd.ahL {α:Type} (σ:St):(Rd.fail:Rd α).val σ=none:=rfl
@[simp] theorem Rd.Aw {α:Type} (k:Nat) (f:eW->Rd α) (σ:St):(Rd.get k f).val σ=(f (σ k)).val σ:=by
 simp only[Rd.val,Rd.run];exact(kM (f (σ k)) σ [k])
@[simp] theorem Rd.SK {α β:Type} (m:Rd α) (f:α->Rd β) (σ:St):(m.bind f).val σ=(m.val σ).bind λa=>(f a).val σ:=by
 induction m with
 |ret a=>rfl
 |fail=>rfl
 |get k g ih=>simp only[Rd.bind,Rd.Aw];exact ih _
theorem Rd.bind_some{α β:Type}{m:Rd α}{f:α->Rd β}{σ:St}{b:β}(h:(m.bind f).val σ=ai b):∃a,m.val σ=ai a/\(f a).val σ=ai b:=by rw[Rd.SK,Option.bind_eq_some_iff]at h;exact h
theorem cG(h:(bif b then m else Rd.fail).val σ=ai a):b=ao/\m.val σ=ai a:=by
 cases b with
 |true=>exact⟨rfl,h⟩
 |false=>simp at h
def jM(d:aN->Prop)(σ:St)(c:gn)(b:aN):Prop:=∃nm o,d nm/\σ (c6 nm)=.o o/\fu c nm o b
theorem jM.own(h:jM i σ c b):Own σ c b:=by obtain⟨nm,o,_,d,f⟩:=h;exact⟨nm,o,d,f⟩
theorem lK(h:c'.P nm=c.P nm/\c'.G nm=c.G nm)(b:aN):fu c' nm o b=fu c nm o b:=by cases o<;>simp only[fu,h.1,h.2]
theorem Ok.qW(h:Ok E σ w c)(j:aN->Prop)
  (hσ:∀nm,¬j nm->σ' (c6 nm)=σ (c6 nm)) (h4:∀nm,σ (c6 nm)≠ .jw->σ' (c6 nm)≠ .jw) (hA:pE σ c c') (R:∀nm,¬j nm->σ (c6 nm)≠ .jw->c'.G nm=c.G nm)
  (U:∀b,b<w.heap.size->¬jM j σ c b->w'.heap[b]? =w.heap[b]?) (h9:w.heap.size<=w'.heap.size)
  (S:∀b,c.K b->c'.K b) (M:∀b,c'.K b->c.K b\/jM j σ c b\/w.heap.size<=b) (N:∀b,c'.K b->b<w'.heap.size)
  (h6:∀nm o,j nm->σ' (c6 nm)=.o o->ph E w' c' nm o)
  (H:∀nm o b,j nm->σ' (c6 nm)=.o o->fu c' nm o b->(jM j σ c b\/w.heap.size<=b)/\¬c'.K b)
  (h8:∀nm o d A b,j nm->j d->σ' (c6 nm)=.o o->σ' (c6 d)=.o A->fu c' nm o b->fu c' d A b->nm=d)
  (h3:∀nm xs,j nm->σ' (c6 nm)=.o (.box xs)->∀a∈xs,iU σ' a)
  (h7:w'.os=w.os) (I:w'.tape=w.tape) (Q:w'.output=w.output):Ok E σ' w' c'/\Grow σ c w σ' c' w':=by
 have r:∀nm o b,¬j nm->σ (c6 nm)=.o o->fu c nm o b->¬jM j σ c b:=by intro nm o b i f k ⟨he,o2,X,h5,Y⟩;exact i (h.sep nm o he o2 b f h5 k Y▸X)
 have s:∀nm o,¬j nm->σ' (c6 nm)=.o o->σ (c6 nm)=.o o/\(c'.P nm=c.P nm/\c'.G nm=c.G nm):=by intro nm o i f;rw[hσ nm i]at f;exact⟨f,(hA nm (.inl (by rw[f];simp))).1,R nm i (by rw[f];simp)⟩
 have z:∀b,c.K b->w'.heap[b]? =w.heap[b]? :=λb C=>U b (h.lt b C) (λhi=>h.Fy hi.own C);have lt:∀nm o b,σ (c6 nm)=.o o->fu c nm o b->b<w.heap.size:=λnm o b f k=>Own.lt h ⟨nm,o,f,k⟩;refine⟨⟨?_,?_,?_,N,?_,E.gp.fr h.gp z S⟩,⟨h7,I,Q,h9,S,?_,?_,?_⟩⟩
 ·intro nm o f;by_cases i:j nm
  ·exact h6 nm o i f
  ·obtain⟨m,B⟩:=s nm o i f;refine(h.obj nm o m).frame z S (λb C=>U b (lt nm o b m C) (r nm o b i m C)) B ?_;intro xs hx a hm n O;exact hA n (.inl (h.kn nm xs (hx▸m) a hm n O))
 ·intro nm o d A b f m k t;by_cases i:j nm
  ·by_cases x:j d
   ·exact h8 nm o d A b i x f m k t
   ·obtain⟨u,B⟩:=s d A x m;rw[lK B]at t;rcases(H nm o b i f k).1 with hi|hi
    ·exact cJ hi (r d A b x u t)
    ·have:=lt d A b u t;omega
  ·obtain⟨u,B⟩:=s nm o i f;rw[lK B]at k;by_cases x:j d
   ·rcases(H d A b x m t).1 with hi|hi
    ·exact cJ hi (r nm o b i u k)
    ·have:=lt nm o b u k;omega
   ·obtain⟨y,V⟩:=s d A x m;rw[lK V]at t;exact h.sep nm o d A b u y k t
 ·intro nm o b f k;by_cases i:j nm
  ·exact(H nm o b i f k).2
  ·obtain⟨u,B⟩:=s nm o i f;rw[lK B]at k;intro hk;rcases M b hk with y|y|y
   ·exact h.kk nm o b u k y
   ·exact r nm o b i u k y
   ·have:=lt nm o b u k;omega
 ·intro nm xs f a hm;by_cases i:j nm
  ·exact h3 nm xs i f a hm
  ·obtain⟨u,_⟩:=s nm _ i f;intro n O;exact h4 n (h.kn nm xs u a hm n O)
 ·intro b C O;exact U b C (λhi=>O hi.own)
 ·rintro b ⟨nm,o,f,k⟩;by_cases i:j nm
  ·exact(H nm o b i f k).1.imp jM.own id
  ·obtain⟨u,B⟩:=s nm o i f;rw[lK B]at k;exact .inl ⟨nm,o,u,k⟩
 ·intro b C;rcases M b C with y|y|y
  ·exact .inl y
  ·exact .inr (.inl y.own)
  ·exact .inr (.inr y)
theorem Ok.change(h:Ok E σ w c)(d:aN->Prop)
  (hσ:∀nm,¬d nm->σ' (c6 nm)=σ (c6 nm)) (t:∀nm,σ (c6 nm)≠ .jw->σ' (c6 nm)≠ .jw) (A:ji σ c c')
  (H:∀b,b<w.heap.size->¬jM d σ c b->w'.heap[b]? =w.heap[b]?) (z:w.heap.size<=w'.heap.size)
  (C:∀b,c.K b->c'.K b) (m:∀b,c'.K b->c.K b\/jM d σ c b\/w.heap.size<=b) (j:∀b,c'.K b->b<w'.heap.size)
  (u:∀nm o,d nm->σ' (c6 nm)=.o o->ph E w' c' nm o)
  (r:∀nm o b,d nm->σ' (c6 nm)=.o o->fu c' nm o b->(jM d σ c b\/w.heap.size<=b)/\¬c'.K b)
  (y:∀nm o f B b,d nm->d f->σ' (c6 nm)=.o o->σ' (c6 f)=.o B->fu c' nm o b->fu c' f B b->nm=f)
  (s:∀nm xs,d nm->σ' (c6 nm)=.o (.box xs)->∀a∈xs,iU σ' a)
  (x:w'.os=w.os) (i:w'.tape=w.tape) (k:w'.output=w.output):Ok E σ' w' c'/\Grow σ c w σ' c' w':=
 h.qW d hσ t A.w (λnm _ I=>(A nm (.inl I)).2) H z C m j u r y s x i k
theorem Ok.slot(h:Ok E σ w c)(hσ:∀nm,σ' (c6 nm)=σ (c6 nm)):Ok E σ' w c/\Grow σ c w σ' c w:=by
 refine⟨⟨λnm o d=>h.obj nm o (hσ nm▸d),λnm o f r b i j=>h.sep nm o f r b (hσ nm▸i) (hσ f▸j),λnm o b i=>h.kk nm o b (hσ nm▸i),h.lt,λnm xs d a hm n m=>by rw[hσ];exact h.kn nm xs (hσ nm▸d) a hm n m,h.gp⟩,
  ⟨rfl,rfl,rfl,bT _,λ_ h=>h,λ_ _ _=>rfl,λb ⟨nm,o,d,k⟩=>.inl ⟨nm,o,hσ nm▸d,k⟩,λ_ h=>.inl h⟩⟩
theorem CJ(a:Act)(d:aN)(v:bP)(h:d<a.tmps.size):(a.put (ai d) v).eval (.tmp d)=v:=by simp[S1,Gt,h]
theorem G3(a:Act)(d n:aN)(v:bP)(h:n≠d):(a.put (ai d) v).eval (.tmp n)=a.eval (.tmp n):=by simp only[S1,Gt,eu,nN];rw[bh (λe=>h e.symm)]
theorem e6.qW(h:e6 E σ a w c)(r:Ok E σ w c)(s:Grow σ c w σ' c' w')(y:pE σ c c')(k:∀nm,σ (c6 nm)≠ .jw->σ' (c6 nm)≠ .jw)
  (o:gK) (v:bP) (hs:∀n,o.dst≠ai n->slot σ' n=slot σ n) (hd:∀d,o.dst=ai d->d<a.tmps.size/\iM E w' c' (slot σ' d) v/\mf σ' (slot σ' d)):e6 E σ' (a.put o.dst v) w' c':=by
 have keep:∀n,iM E w' c' (slot σ n) (a.eval (.tmp n)):=λn=>(h.ok n).oT (s.WX r) s.K (λm hm=>y m (.inl (h.kn n m hm)));have f:∀n,mf σ' (slot σ n):=λn m hm=>k m (h.kn n m hm);cases j:o.dst with
 |none=>
  refine⟨λn=> ?_,λn=> ?_,h.df⟩
  ·rw[hs n (by simp[j])];exact keep n
  ·rw[hs n (by simp[j])];exact f n
 |some d=>
  obtain⟨t,u,x⟩:=hd d j;refine⟨λn=> ?_,λn=> ?_,h.df⟩
  ·by_cases i:n=d
   ·subst i;rw[CJ a n v t];exact u
   ·rw[G3 a d n v i,hs n (by rw[j];simpa using λe=>i e.symm)];exact keep n
  ·by_cases i:n=d
   ·subst i;exact x
   ·rw[hs n (by rw[j];simpa using λe=>i e.symm)];exact f n
theorem e6.change(h:e6 E σ a w c)(i:Ok E σ w c)(k:Grow σ c w σ' c' w')(j:ji σ c c')(f:∀nm,σ (c6 nm)≠ .jw->σ' (c6 nm)≠ .jw)
  (o:gK) (v:bP) (hs:∀n,o.dst≠ai n->slot σ' n=slot σ n) (hd:∀d,o.dst=ai d->d<a.tmps.size/\iM E w' c' (slot σ' d) v/\mf σ' (slot σ' d)):e6 E σ' (a.put o.dst v) w' c':=
 h.qW i k j.w f o v hs hd
theorem pC(σ:St)(o:gK)(v:SV):(∀n,o.dst≠ai n->slot (wr σ (dw o v)) n=slot σ n)/\(∀d,o.dst=ai d->slot (wr σ (dw o v)) d=v)/\∀nm,wr σ (dw o v) (c6 nm)=σ (c6 nm):=by
 cases f:o.dst with
 |none=>simp[dw,f,wr]
 |some d=>
  refine⟨λn h=> ?_,λi hd=> ?_,λnm=> ?_⟩
  ·simp only[dw,f,wr];rw[wN,bh (by rintro rfl;exact h rfl)]
  ·cases hd;simp only[dw,f,wr];rw[wN,bm rfl]
  ·simp only[dw,f,wr];exact HT _ _ _ _
end Go.FG
namespace Go.FG
def ie:Ck->bP
 |.i k=>.int k 0|.b=>.bool aq|.s=>.string ⟨#[]⟩|.l _=>.slice aj 0 0|.o=>.nilIface
def lz:AV->bP
 |.i k n=>.int k n|.b x=>.bool x|.s x=>.string x|_=>.nilIface
structure dY (P:de) (E:Tab):Prop where
 info:∀t ti,E.ty t=ai ti->∃inf,P.info? t=ai inf/\inf.size=ti.ks.length/\inf.bytes=ti.bytes/\0<ti.ks.length/\
  (Jk ti.ks=ao->∃z,inf.zero=ai z/\z.cells=(ti.ks.map ie).toArray/\(ti.agg=ao->z=.agg (ti.ks.map ie).toArray))
 desc:∀t ti,E.ty t=ai ti->∃d,P.underlying t=ai d/\
  (ti.agg=ao->∃fs,d=.struct fs/\∀f o n,E.fo t f=ai (o,n)->∃fd,fs[f]? =ai fd/\fd.offset=o/\(P.info? fd.type).map (·.size)=ai n/\n≠0/\o+n<=ti.ks.length)/\
  (ti.agg=aq->(∃k,ti.ks=[.i k]/\d=.int k)\/(ti.ks=[.b]/\d=.bool)\/(ti.ks=[.s]/\d=.string)\/(∃e,ti.ks=[.l e]/\d=.slice e)\/
   (ti.ks=[.o]/\(match d with|.struct _|.array _ _=>aq|_=>ao)=ao))
 fo:∀t f o n,E.fo t f=ai (o,n)->∃ti,E.ty t=ai ti/\ti.agg=ao
 pl:∀t ti,E.ty t=ai ti->ti.agg=ao->∀fs,P.underlying t=ai (.struct fs)->∃pl,fs.toList.mapM (λf=>(P.info? f.type).map λi=>(f.offset,i.size))=ai pl/\∀f o n,E.fo t f=ai (o,n)->pl[f]? =ai (o,n)
 eq:∀t ti,ma t E.eqs=ao->E.ty t=ai ti->∀(w:cB) (x y:eQ) (xs ys:aE AV) (r:aY),Ui xs ys=ai r->xs.map Fs=ti.ks->ys.map Fs=ti.ks->
  (do eqGuard .eql t x y (.agg (xs.map lz).toArray) (.agg (ys.map lz).toArray);binOp .eql t (.agg (xs.map lz).toArray) (.agg (ys.map lz).toArray)).run P w=.ok (.bool r) w/\
  (do eqGuard .neq t x y (.agg (xs.map lz).toArray) (.agg (ys.map lz).toArray);binOp .neq t (.agg (xs.map lz).toArray) (.agg (ys.map lz).toArray)).run P w=.ok (.bool !r) w
 fl:∀t f,E.Tk t f=ao->∀fs fd,P.underlying t=ai (.struct fs)->fs[f]? =ai fd->∀w,(Go.isAgg fd.type).run P w=.ok aq w
theorem Dg{v:bP}(h:v.oneCell'=ao):v.cells= #[v]:=by cases v<;>simp_all [Value.cells,Value.oneCell']
theorem ed.one{w:cB}(h:ed E w c a v):v.oneCell'=true:=by
 cases a with
 |i=>cases h;rfl
 |b=>cases h;rfl
 |s=>cases h.1;rfl
 |nl=>cases h;rfl
 |sh e xs=>cases h<;>rfl
 |own n=>cases h;unfold j5;split<;>rfl
 |vw n lo hi=>
  obtain⟨_,_,k,m⟩:=h;by_cases d:(c.P n).nil=ao
  ·rw[k d];rfl
  ·rcases m (by simpa using d)with ⟨_,h⟩|⟨_,o,_,h⟩<;>rw[h]<;>rfl
 |bp n j=>cases h;rfl
 |rp n i j=>rw[h.2];rfl
 |sp e xs i j=>obtain⟨_,_,_,_,_,_,_,h⟩:=h;rw[h];rfl
 |lR n i j=>rw[h.1.2];unfold j5;split<;>rfl
 |ip n i j t u=>rw[h.1.2.2];rfl
 |iv n i j lo hi=>
  obtain⟨⟨_,_,_,k,m⟩,_⟩:=h;by_cases d:(c.G n i j).nil=ao
  ·rw[k d];rfl
  ·rcases m (by simpa using d)with ⟨_,h⟩|⟨_,o,_,h⟩<;>rw[h]<;>rfl
 |fn f r=>obtain⟨ps,h,_⟩:=h;rw[h];rfl
 |fp cs j=>obtain⟨b,h,_⟩:=h;rw[h];rfl
section
variable {P:de} (w:cB)
theorem Addr.mL(b o i:aN):(ad b o).add i=ad b (o+i):=by unfold Addr.add ad;split<;>simp_all
theorem CR(b o:aN):∀(vs:aE bP) (i:aN) (w:cB) (d:eF bP),nb w b d->o+i+vs.length<=d.size->(∀v∈vs,v.oneCell'=ao)->
  (storeCells (ad b o) vs i).run P w=.ok () (w.setRow b (d.toList.take (o+i)++vs++d.toList.drop (o+i+vs.length)).toArray):=by
 intro vs;induction vs with
 |nil=>intro i w d j _ _;obtain⟨t,fr,hg,u⟩:=j;simp only[storeCells,cZ,jz,zQ,List.take_append_drop,tu];rw[setRow_self w b d t fr hg];rfl
 |cons v rest ih=>
  intro i w d j hl s;have hi:o+i<d.size:=by simp at hl;omega
  have h:=j.free hi;obtain⟨t,fr,hg,u⟩:=j;have f:w.cell? (ad b (o+i))=ai d[o+i]:=by simp[Mr,hg,hi]
  have m:(store ((ad b o).add i) v).run P w=.ok () (w.setRow b (d.setIfInBounds (o+i) v)):=by rw[Addr.mL,run_store P w _ v _ (s v (by simp)),f];simp[h,setCell_eq_setRow w b (o+i) d t fr v hg]
  have k:nb (w.setRow b (d.setIfInBounds (o+i) v)) b (d.setIfInBounds (o+i) v):=⟨t,fr,setRow_heap w b d _ t fr hg,by simpa using u⟩
  have r:=ih (i+1) (w.setRow b (d.setIfInBounds (o+i) v)) (d.setIfInBounds (o+i) v) k (by simp at hl⊢;omega) (λx y=>s x (by simp[y]));simp only[storeCells,cg,m,bH,r,setRow_setRow];congr 3;have e:=list_seg_step d.toList (o+i) v rest (by simp at hl⊢;omega);simpa [Array.toList_setIfInBounds,jL]using e
def dN(d:eF bP)(o:aN)(vs:aE bP):eF bP:=(d.toList.take o++vs++d.toList.drop (o+vs.length)).toArray
theorem eM(h:o+vs.length<=cur.size):(dN cur o vs).size=cur.size:=by simp[dN];omega
theorem gb(h:o+vs.length<=cur.size)(k:aN):
  (dN cur o vs)[k]? =if o<=k/\k<o+vs.length then vs[k-o]? else cur[k]? :=by
 simp only[dN,gP];by_cases d:k<o
 ·rw[bh (by omega),ca,dj (by simp;omega),dP,bm d];simp
 ·by_cases f:k<o+vs.length
  ·rw[bm ⟨by omega,f⟩,ca,cY (by simp;omega),dj (by simp;omega)];congr 1;simp;omega
  ·rw[bh (by omega),ca,cY (by simp;omega),cY (by simp;omega),dO];simp only[cR];congr 1;simp;omega
theorem mZ(f:nb w b cur)(hl:o+vs.length<=cur.size)(d:∀v∈vs,v.oneCell'=ao):
  (storeCells (ad b o) vs).run P w=.ok () (w.setRow b (dN cur o vs)):=by have:=CR (P:=P) b o vs 0 w cur f (by simpa using hl) d;simpa [dN]using this
theorem nb.setRow{w:cB}(h:nb w b cur)(hs:new.size=cur.size):nb (w.setRow b new) b new:=by obtain⟨t,fr,hg,d⟩:=h;exact⟨t,fr,setRow_heap w b cur new t fr hg,by rw[hs];exact d⟩
theorem nb.alloc(w:cB)(cs:eF bP)(t:TypeId):nb (w.alloc (.cells cs t)) w.heap.size cs:=
 ⟨t,(0,0),heap_alloc_new w _,λo _=>by simp⟩
theorem wJ{b o:aN}{cs:aE bP}(h:∀j v,cs[j]? =ai v->w.cell? (ad b (o+j))=ai v):(loadCells (ad b o) cs.length).run P w=.ok cs.toArray w:=
 run_loadCells_list w (ad b o) cs (λj v d=>by rw[Addr.mL];exact h j v d)
theorem B0{E:Tab}(hE:dY P E){t:aN}{ti:TI}(z:E.ty t=ai ti){b o:aN}{cs:aE bP}(hl:cs.length=ti.ks.length)(h:∀j v,cs[j]? =ai v->w.cell? (ad b (o+j))=ai v):
  (xC t (.pointer (ai (ad b o)))).run P w=.ok (if ti.agg=ao then .agg cs.toArray else cs.headD .nilIface) w:=by
 obtain⟨C,hi,r,_,y,_⟩:=hE.info t ti z;obtain⟨d,hd,A,u⟩:=hE.desc t ti z;cases f:ti.agg with
 |true=>obtain⟨fs,rfl,_⟩:=A f;have B:=wJ (P:=P) w (b:=b) (o:=o) h;simp only[xC,tZ,loadVar,isAgg,cg,run_underlying hd,cU,bH,if_true,sizeOf,typeInfo,program,mI,hi,r,<-hl,B]
 |false=>
  have m:∃k,ti.ks=[k]:=by rcases u f with ⟨k,h,_⟩|⟨h,_⟩|⟨h,_⟩|⟨e,h,_⟩|⟨h,_⟩<;>exact⟨_,h⟩
  obtain⟨k,hk⟩:=m;rw[hk]at hl;obtain⟨v,rfl⟩:=gE.1 hl;have s:=h 0 v rfl;simp only[zQ]at s;have x:(match d with|.struct _|.array _ _=>ao|_=>aq)=false:=by
   rcases u f with ⟨k,_,rfl⟩|⟨_,rfl⟩|⟨_,rfl⟩|⟨e,_,rfl⟩|⟨_,h⟩
   ·rfl
   ·rfl
   ·rfl
   ·rfl
   ·cases d<;>simp_all
  have i:(isAgg t).run P w=.ok aq w:=by simp only[isAgg,cg,run_underlying hd,bH];cases d<;>simp_all
  simp only[xC,tZ,loadVar,cg,cU,bH,i,db,if_false,run_load,s,List.headD]
theorem HG(hE:dY P E)(k:E.ty t=ai ti)(hl:v.cells.size=ti.ks.length)(h:nb w b cur)(i:o+v.cells.size<=cur.size)(f:∀u∈v.cells.toList,u.oneCell'=ao):
  (TM t (.pointer (ai (ad b o))) v).run P w=.ok () (w.setRow b (dN cur o v.cells.toList)):=by obtain⟨m,hi,d,_⟩:=hE.info t ti k;have j:=mZ (P:=P) w h (o:=o) (vs:=v.cells.toList) (by simpa using i) f;simp only[TM,tZ,storeVar,cg,cU,bH,sizeOf,typeInfo,program,mI,hi,d,hl,ne_eq,not_true_eq_false,if_false,j]
theorem Ny(hE:dY P E)(j:E.ty t=ai ti)(h:Jk ti.ks=ao):
  (Instr.alloc t ao (.tuple #[])).run P w=.ok (.pointer (ai (ad w.heap.size 0))) (w.alloc (.cells (ti.ks.map ie).toArray t)):=by obtain⟨m,hi,i,_,_,k⟩:=hE.info t ti j;obtain⟨z,d,f,_⟩:=k h;simp only[Instr.alloc,cg,zeroValue,typeInfo,program,mI,hi,bH,cU,d,newVar,newRow,newObj,f];rfl
theorem RR(t:aN)(v:bP):(Instr.box t v).run P w=.ok (.pointer (ai (ad w.heap.size 0))) (w.alloc (.cells v.cells t)):=by simp only[Instr.box,cg,newVar,newRow,newObj,mI,bH,cU];rfl
theorem HC(hE:dY P E)(r:E.fo t f=ai (off,n))(b o:aN):
  (TK t (.pointer (ai (ad b o))) f).run P w=.ok (.pointer (ai (ad b (o+off)))) w:=by
 obtain⟨ti,z,i⟩:=hE.fo t f off n r;obtain⟨d,hd,y,_⟩:=hE.desc t ti z;obtain⟨fs,rfl,j⟩:=y i;obtain⟨s,u,x,m,A,_⟩:=j f off n r;cases hq:P.info? s.type with
 |none=>simp[hq]at m
 |some h=>
  have hs:h.size=n:=by simpa [hq]using m
  have k:¬h.size=0:=by omega
  simp only[TK,cg,run_underlying hd,bH,u,tZ,cU,fieldPlace,sizeOf,typeInfo,program,mI,hq,bh k,mD,Addr.mL,x]
theorem oQ(hE:dY P E)(j:E.ty t=ai ti)(f:ti.agg=aq)(hk:ti.ks=[.l e]):P.underlying t=ai (.slice e):=by obtain⟨d,hd,_,i⟩:=hE.desc t ti j;rcases i f with ⟨k,h,_⟩|⟨h,_⟩|⟨h,_⟩|⟨m,h,rfl⟩|⟨h,_⟩<;>rw[hk]at h<;>simp_all
theorem HD(hE:dY P E)(j:P.underlying t=ai (.slice e))(h:E.ty e=ai te)(b o n c:aN)(k:sn)(i:ay)(h0:0<=i)(f:i<n):
  (TL t (.slice (ai (ad b o)) n c) (.int k i)).run P w=.ok (.pointer (ai (ad b (o+i.toNat*te.ks.length)))) w:=by obtain⟨m,hi,d,_⟩:=hE.info e te h;simp only[TL,asIntOf,cg,cU,bH,run_underlying j,h0,f,and_self,if_true,sizeOf,typeInfo,program,mI,hi,d,Addr.mL]
end
end Go.FG
namespace Go.FG
section
variable {P:de} {E:fW} {σ:St} {a:Act} {w:cB} {c:gn}
theorem lN(i:e6 E σ a w c)(h:(FF x).val σ=ai v):iM E w c v (a.eval x)/\mf σ v:=by
 cases x with
 |tmp t=>
  simp only[FF,Rd.Aw]at h;cases j:σ (pW t)with
  |v x=>rw[j]at h;obtain rfl:=aJ h;have k:=i.ok t;have m:=i.kn t;simp only[slot,j]at k m;exact⟨k,m⟩
  |o x=>rw[j]at h;simp at h;subst h;exact⟨trivial,λn d=>by simp[cF]at d⟩
  |jw=>rw[j]at h;simp at h;subst h;exact⟨trivial,λn d=>by simp[cF]at d⟩
 |const r=>
  obtain rfl:=aJ h;refine⟨?_,?_⟩
  ·show iM E w c (cst r) r;unfold cst;split;case h_3 x=>
    cases hd:eS x.size 4611686018427387904 with
    |true=>exact⟨rfl,cM hd⟩
    |false=>exact trivial
   all_goals first|trivial|rfl
  ·unfold cst;intro n d;split at d;case h_3 x=>
    cases hd:eS x.size 4611686018427387904 with
    |true=>simp[hd,cF,bL]at d
    |false=>simp[hd,cF]at d
   all_goals simp[cF,bL]at d
 |global g=>simp[FF]at h
 |func f=>obtain rfl:=aJ h;exact⟨⟨#[],rfl,rfl,λq cs hq=>by simp at hq⟩,λn d=>by simp[cF,bL]at d⟩
theorem iJ(f:e6 E σ a w c)(h:(rk x).val σ=ai v):ed E w c v (a.eval x)/\iU σ v:=by
 obtain⟨s,i,d⟩:=Rd.bind_some h;obtain⟨j,k⟩:=lN f i;split at d
 ·obtain rfl:=aJ d;exact⟨j,λn m=>k n (by simpa [cF]using m)⟩
 ·simp at d
theorem pA(f:e6 E σ a w c)(h:(BF x).val σ=ai (k,n)):a.eval x=.int k n:=by
 obtain⟨s,i,d⟩:=Rd.bind_some h;obtain⟨j,_⟩:=iJ f i;split at d
 ·simp at d;obtain⟨rfl,rfl⟩:=d;exact j
 ·simp at d
theorem dh(h:(i6 nm).val σ=ai x):σ (c6 nm)=.o x:=by
 simp only[i6,Rd.Aw]at h;split at h
 ·rename_i y d;simp at h;subst h;exact d
 ·simp at h
theorem dE(h:(rD E t).val σ=ai ti):E.ty t=ai ti:=by
 unfold rD at h;split at h
 ·simp at h;subst h;assumption
 ·simp at h
theorem kc(h:(fresh nm).val σ=ai u):σ (c6 nm)=.jw/\nm<900000000:=by
 simp only[fresh,Rd.Aw]at h;split at h
 ·rename_i f;obtain⟨d,_⟩:=cG h;exact⟨f,by have:=cM d;omega⟩
 ·simp at h
def gw(P:de)(E:fW)(σ:St)(a:Act)(w:cB)(c:gn)(o:gK)(ws:aE (aN×eW)):Prop:=
 ∀(K:Act->cB->Prop) (Q:Exit->Act->cB->Prop),
  (∀v w' c',Ok E (wr σ ws) w' c'->e6 E (wr σ ws) (a.put o.dst v) w' c'->Grow σ c w (wr σ ws) c' w'->pE σ c c'->K (a.put o.dst v) w')->o.wp P a w K Q
theorem wT(f:(execOp a.eval o).run P w=.ok (.value v) w')(d:K (a.put o.dst v) w'):o.wp P a w K Q:=by unfold Mq;rw[f];exact d
theorem vn(f:(execOp a.eval o).run P w=.ok .skip w')(d:K (a.put o.dst undef) w'):o.wp P a w K Q:=by unfold Mq;rw[f];exact d
theorem ji.refl(σ:St)(c:gn):ji σ c c:=λ_ _=>⟨rfl,rfl⟩
theorem fO(f:Ok E σ w c)(j:e6 E σ a w c)(hd:∀d,o.dst=ai d->d<a.tmps.size)
  (hs:iM E w c s v) (hk:mf σ s) (u:(execOp a.eval o).run P w=.ok (.value v) w):gw P E σ a w c o (dw o s):=by
 intro K Q t;obtain⟨s1,m,s3⟩:=pC σ o s;obtain⟨r,k⟩:=f.slot s3;refine wT u (t v w c r ?_ k (ji.refl _ _).w);refine j.change f k (ji.refl _ _) (λnm h=>by rw[s3];exact h) o v s1 (λd i=>⟨hd d i,?_,?_⟩)
 ·rw[m d i];exact hs
 ·rw[m d i];intro n h;rw[s3];exact hk n h
theorem Bo(j:Ok E σ w c)(S:e6 E σ a w c)(hd:∀d,o.dst=ai d->d<a.tmps.size)
  (hn:σ (c6 nm)=.jw) (h1:nm<900000000)
  (N:∀c':gn,c'.P nm=p->c'.G nm=g->(∀b,c.K b->c'.K b)->ji σ c c'->ph E w' c' nm ob)
  (B:∀c':gn,c'.P nm=p->c'.G nm=g->∀b,fu c' nm ob b->w.heap.size<=b)
  (H:∀xs,ob=.box xs->∀a∈xs,iU σ a)
  (U:∀c':gn,c'.P nm=p->c'.G nm=g->iM E w' c' s v) (I:∀n∈cF s,n=nm\/σ (c6 n)≠ .jw)
  (hW:∀b,b<w.heap.size->w'.heap[b]? =w.heap[b]?) (r:w.heap.size<=w'.heap.size) (O:w'.os=w.os) (V:w'.tape=w.tape) (R:w'.output=w.output)
  (hr:(execOp a.eval o).run P w=.ok (.value v) w'):gw P E σ a w c o ((c6 nm,.o ob)::dw o s):=by
 intro K Q Y;let c':gn:=⟨λn=>if n=nm then p else c.P n,λn=>if n=nm then g else c.G n,c.K⟩
 have z:c'.P nm=p:=bm rfl;have u:c'.G nm=g:=bm rfl;have t:ji σ c c':=λm hm=>by
  have:m≠nm:=by rintro rfl;rcases hm with h|h;exact h hn;omega
  exact⟨bh this,bh this⟩
 let σ1:=ox σ (c6 nm) (.o ob);obtain⟨s1,X,s3⟩:=pC σ1 o s;have key:∀m,wr σ1 (dw o s) (c6 m)=if m=nm then .o ob else σ (c6 m):=λm=>by rw[s3];exact oc _ _ _ _
 have k:∀m,σ (c6 m)≠ .jw->wr σ1 (dw o s) (c6 m)≠ .jw:=λm hm=>by rw[key];split<;>simp_all
 have C:=j.change (σ':=wr σ1 (dw o s)) (w':=w') (c':=c') (λm=>m=nm) (λm hm=>by rw[key,bh hm]) k t
  (λb A _=>hW b A) r (λ_ h=>h) (λ_ h=>.inl h) (λb A=>iB (j.lt b A) r)
  (λm x hm f=>by subst hm;rw[key,bm rfl]at f;cases f;exact N c' z u (λ_ h=>h) t)
  (λm x b hm f hf=>by subst hm;rw[key,bm rfl]at f;cases f;have:=B c' z u b hf;exact⟨.inr this,λhk=>by have:=j.lt b hk;omega⟩)
  (λm x m' x' b hm M _ _ _ _=>by rw[hm,M])
  (λm xs hm f y hy n i=>by subst hm;rw[key,bm rfl]at f;cases f;exact k n (H xs rfl y hy n i)) O V R
 refine wT hr (Y v w' c' C.1 ?_ C.2 t.w);refine S.change j C.2 t k o v (λn i=>by rw[s1 n i];exact iu _ _ _ _) (λd f=>⟨hd d f,?_,?_⟩)
 ·show iM E w' c' (slot (wr σ1 (dw o s)) d) v;rw[X d f];exact U c' z u
 ·show mf (wr σ1 (dw o s)) (slot (wr σ1 (dw o s)) d);rw[X d f];intro n i;rw[key];split
  ·simp
  ·rename_i h;exact(I n i).resolve_left h
theorem sP(j:Ok E σ w c)(V:e6 E σ a w c)(hd:∀d,o.dst=ai d->d<a.tmps.size)
  (hn:σ (c6 nm)=.o ob) (R:ph E w' c nm ob') (u:∀b,fu c nm ob' b->fu c nm ob b)
  (I:∀xs,ob'=.box xs->∀a∈xs,iU σ a)
  (X:iM E w' c s v) (M:mf σ s)
  (hW:∀b,b<w.heap.size->¬fu c nm ob b->w'.heap[b]? =w.heap[b]?) (C:w.heap.size<=w'.heap.size) (S:w'.os=w.os) (Y:w'.tape=w.tape) (U:w'.output=w.output)
  (B:(execOp a.eval o).run P w=.ok (.value v) w'\/((execOp a.eval o).run P w=.ok .skip w'/\v=undef)):gw P E σ a w c o ([(c6 nm,.o ob')]++dw o s):=by
 intro K Q hK;let σ1:=ox σ (c6 nm) (.o ob');obtain⟨s1,s2,s3⟩:=pC σ1 o s;have key:∀m,wr σ1 (dw o s) (c6 m)=if m=nm then .o ob' else σ (c6 m):=λm=>by rw[s3];exact oc _ _ _ _
 have r:∀m,σ (c6 m)≠ .jw->wr σ1 (dw o s) (c6 m)≠ .jw:=λm hm=>by rw[key];split<;>simp_all
 have A:∀b,fu c nm ob b->jM (λm=>m=nm) σ c b:=λb t=>⟨nm,ob,rfl,hn,t⟩
 have z:=j.change (σ':=wr σ1 (dw o s)) (w':=w') (c':=c) (λm=>m=nm) (λm hm=>by rw[key,bh hm]) r (ji.refl _ _)
  (λb t O=>hW b t (λH=>O (A b H))) C (λ_ h=>h) (λ_ h=>.inl h) (λb t=>iB (j.lt b t) C)
  (λm x hm f=>by subst hm;rw[key,bm rfl]at f;cases f;exact R)
  (λm x b hm f H=>by subst hm;rw[key,bm rfl]at f;cases f;exact⟨.inl (A b (u b H)),j.kk _ _ b hn (u b H)⟩)
  (λm x m' x' b hm N _ _ _ _=>by rw[hm,N])
  (λm xs hm f y hy n i=>by subst hm;rw[key,bm rfl]at f;cases f;exact r n (I xs rfl y hy n i)) S Y U
 have k:e6 E (wr σ1 (dw o s)) (a.put o.dst v) w' c:=by
  refine V.change j z.2 (ji.refl _ _) r o v (λn i=>by rw[s1 n i];exact iu _ _ _ _) (λd f=>⟨hd d f,?_,?_⟩)
  ·rw[s2 d f];exact X
  ·rw[s2 d f];intro n i;rw[key];split
   ·simp
   ·exact M n i
 rcases B with B|⟨B,rfl⟩
 ·exact wT B (hK v w' c z.1 k z.2 (ji.refl _ _).w)
 ·exact vn B (hK undef w' c z.1 k z.2 (ji.refl _ _).w)
end
end Go.FG
namespace Go.FG
theorem aaZ:∀{x y:Ck},ckB x y=ao->x=y:=by intro x y h;cases x<;>cases y<;>simp[ckB]at h<;>first|rfl|(subst h;rfl)|(have:=aX h;subst this;rfl)
theorem qX:∀{a b:aE Ck},pR a b=ao->a=b
 |[],[],_=>rfl
 |[],_::_,h=>by simp[pR]at h
 |_::_,[],h=>by simp[pR]at h
 |x::l,y::r,h=>by
  simp only[pR,aM]at h;rw[aaZ h.1,qX h.2]
structure ajz (E:fW) (w:cB) (K:aN->Prop) (b o n c e:aN) (xs:Row) (ti:TI) (U:aN->aN->bP):Prop where
 nn:n=xs.length
 ty:E.ty e=ai ti
 cap:xs.length<=c
 mx:c<=maxLen
 kb:K b
 sh:∀y∈xs,y.map CV.kd=ti.ks
 cell:∀i j y x,xs[i]? =ai y->y[j]? =ai x->w.cell? (ad b (o+i*ti.ks.length+j))=ai (U i j)
 lR:∀i j y x,xs[i]? =ai y->y[j]? =ai x->Holds E w K (U i j) x
theorem Holds.Hh{E:fW}{w:cB}{K:aN->Prop}{b o n c e:aN}{xs:Row}(h:Holds E w K (.slice (ai (ad b o)) n c) (.l e xs))(r:0<xs.length):∃ti U,ajz E w K b o n c e xs ti U:=by
 generalize u:Value.slice (ai (ad b o)) n c=v at h;generalize f:CV.l e xs=x at h;cases h with
 |i=>cases f
 |b=>cases f
 |s=>cases f
 |nl=>cases f;simp at r
 |l e xs b o c ti U t m hm k hs d j=>cases f;cases u;exact⟨ti,U,rfl,t,m,hm,k,hs,d,j⟩
theorem IK{E:fW}{w:cB}{c:gn}{u:bP}{x:CV}(h:Holds E w c.K u x):ed E w c (dec x.kd x) u:=by
 cases x with
 |i k n=>cases h;rfl
 |b=>cases h;rfl
 |s=>cases h with|s _ d=>exact⟨rfl,d⟩
 |l e xs=>exact h
theorem Lw{E:fW}{w:cB}{c:gn}{u:bP}{x:CV}(h:Holds E w c.K u x):ed E w c (Wa x) u:=by
 cases x with
 |i k n=>cases h;rfl
 |b=>cases h;rfl
 |s=>cases h with|s _ d=>exact⟨rfl,d⟩
 |l e xs=>exact h
theorem oP{E:fW}{w:cB}{c:gn}{u:bP}{x:CV}(hl:tE x=aq)(h:Sc u x):ed E w c (dec x.kd x) u:=by
 cases x with
 |i=>exact h.1
 |b=>exact h.1
 |s=>exact h
 |l=>simp[tE]at hl
theorem Na(k:Ck)(x:CV):bL (dec k x)=[]:=by cases k<;>rfl
theorem Bv(x:CV):bL (Wa x)=[]:=by cases x<;>rfl
theorem lk(xs:Row)(i:aN):∀(ks:aE Ck) (j q:aN),(um xs i j ks)[q]? =(ks[q]?).map λk=>dec k (av xs i (j+q)):=by
 intro ks;induction ks with
 |nil=>intro j q;simp[um]
 |cons k ks ih=>
  intro j q;cases q with
  |zero=>simp[um]
  |succ q=>simp only[um,dD,ih];congr 2;funext k;congr 2;omega
theorem GX(nm:aN)(xs:Row)(i:aN):∀(ks:aE Ck) (j q:aN),(zF nm xs i j ks)[q]? =(ks[q]?).map λk=>match k with|.l _=>AV.lR nm i (j+q)|k=>dec k (av xs i (j+q)):=by
 intro ks;induction ks with
 |nil=>intro j q;simp[zF]
 |cons k ks ih=>
  intro j q;cases q with
  |zero=>cases k<;>simp[zF]
  |succ q=>
   have e:j+1+q=j+(q+1):=by omega
   cases k<;>simp only[zF,dD,ih,e]
theorem eI(hi:xs[i]? =ai y)(d:y[j]? =ai x):av xs i j=x:=by simp[av,dZ,hi,d]
theorem kh(xs:Row)(i:aN):∀(ks:aE Ck) (j:aN),(um xs i j ks).length=ks.length:=by
 intro ks;induction ks with
 |nil=>intro j;rfl
 |cons k ks ih=>intro j;simp[um,ih]
theorem ze(nm:aN)(xs:Row)(i:aN):∀(ks:aE Ck) (j:aN),(zF nm xs i j ks).length=ks.length:=by
 intro ks;induction ks with
 |nil=>intro j;rfl
 |cons k ks ih=>intro j;cases k<;>simp[zF,ih]
theorem qt{ks d:aE Ck}{j:aN}{y:aE CV}(k:y.map CV.kd=ks)(h:(ks.drop j).take d.length=d){q:aN}(hq:q<d.length):∃x,y[j+q]? =ai x/\d[q]? =ai x.kd:=by
 have f:d[q]? =ks[j+q]? :=by rw[<-h,dP,bm hq,dO]
 rw[<-k,bI]at f;cases i:y[j+q]? with
 |none=>rw[i]at f;simp at f;omega
 |some x=>exact⟨x,rfl,by rw[f,i];rfl⟩
section
variable {P:de} {E:fW} {σ:St} {a:Act} {w:cB} {c:gn}
theorem qq(d:iO w p xs (λi j u x=>if ao=ao then XC E w G i j u x else Holds E w c.K u x))(jG:∀y∈xs,y.map CV.kd=ks)(hi:i<p.n)(hk:ks[j]? =ai (.l t)):
  ∃m y,xs[i]? =ai y/\y[j]? =ai (.l t m)/\∃u,XC E w G i j u (.l t m):=by
 have f:i<xs.length:=by rw[<-d.n];exact hi
 have A:xs[i]? =ai xs[i]:=by simp[f]
 have C:=jG xs[i] (bw f);rw[<-C,bI]at hk;cases k:xs[i][j]? with
 |none=>rw[k]at hk;cases hk
 |some x=>
  rw[k]at hk;cases x with
  |l e m=>
   cases hk;have h:p.nil=false:=by
    cases H:p.nil with
    |false=>rfl
    |true=>have:=(d.nil H).1;subst this;simp at f
   obtain⟨B,_,_,_,_,r⟩:=d.mem h;obtain⟨u,_,z⟩:=r i _ j _ A k;rw[bm rfl]at z;exact⟨m,_,A,k,u,z⟩
  |i=>cases hk
  |b=>cases hk
  |s=>cases hk
theorem gF{ks:aE Ck}(h:plain ks=ao){y:aE CV}(i:y.map CV.kd=ks){j:aN}{x:CV}(f:y[j]? =ai x):tE x=false:=by
 have d:x.kd∈ks:=by rw[<-i];exact cN.2 ⟨x,aU f,rfl⟩
 have k:=bz.1 h _ d;cases x<;>simp_all [CV.kd,tE]
structure PI (E:fW) (σ:St) (w:cB) (c:gn) (ti:TI) (v:bP) (xs:aE AV):Prop where
 ex:∃(b o:aN) (cs:aE bP),v=.pointer (ai (ad b o))/\cs.length=ti.ks.length/\(∀(j:aN) (u:bP),cs[j]? =ai u->w.cell? (ad b (o+j))=ai u)/\
  xs.length=ti.ks.length/\(∀(j:aN) (x:AV),xs[j]? =ai x->∃u:bP,cs[j]? =ai u/\ed E w c x u)
 kn:∀x∈xs,iU σ x
theorem lT(hl:xs.length=ti.ks.length)(h:∀(j:aN) (x:AV),xs[j]? =ai x->∃u:bP,w.cell? (ad b (o+j))=ai u/\ed E w c x u)(hk:∀x∈xs,iU σ x):
  PI E σ w c ti (.pointer (ai (ad b o))) xs:=by
 refine⟨⟨b,o,(cT xs.length).map (λj=>(w.cell? (ad b (o+j))).getD undef),rfl,by simp[hl],?_,hl,?_⟩,hk⟩
 ·intro j u d;simp only[bI]at d;by_cases f:j<xs.length
  ·obtain⟨r,i,_⟩:=h j xs[j] (by simp[f]);simp only[f,uT,hJ,i,xE,jf]at d;rw[i,d]
  ·simp[kD (l:=cT xs.length) (by simpa using f)]at d
 ·intro j x k;obtain⟨u,d,m⟩:=h j x k;refine⟨u,?_,m⟩
  have f:j<xs.length:=(aW.1 k).1;simp[f,d]
theorem QW(h7:Ok E σ w c){ti:TI}{p:AV}{v:bP}{xs:aE AV}(hp:ed E w c p v)(h:(rN E ti p).val σ=ai xs):PI E σ w c ti v xs:=by
 have K:∀(n:aN) (k:Ck) (x:CV),n∈bL (dec k x)->σ (c6 n)≠ .jw:=λn k x m=>by rw[Na]at m;simp at m
 cases p with
 |bp nm j=>
  obtain⟨o,Y,r⟩:=Rd.bind_some h;have Q:=h7.obj nm o (dh Y);obtain rfl:v=_:=hp;cases o with
  |box B=>
   obtain⟨M,C⟩:=cG r;have M:=cM M;obtain rfl:=aJ C;obtain⟨h9,hb,hs,hc⟩:=Q;refine lT (by simp;omega) (λq x d=> ?_) (λx d=>h7.kn nm B (dh Y) x (kV (ia d)));rw[dP]at d;split at d
   ·rw[dO]at d;obtain⟨u,hu,hv⟩:=hc (j+q) x d;exact⟨u,(hb.cell (j+q)).trans hu,hv⟩
   ·cases d
  |nI cs=>
   obtain⟨M,C⟩:=cG r;have M:=cM M;obtain rfl:=aJ C;refine lT (by simp;omega) (λq x d=> ?_) (λx d=> ?_)
   ·rw[bI,dP]at d;split at d
    ·rw[dO]at d;cases A:cs[j+q]? with
     |none=>rw[A]at d;cases d
     |some y=>rw[A]at d;cases d;obtain⟨u,hu,hv⟩:=Q.2 (j+q) y A;exact⟨u,hu,Lw hv⟩
    ·cases d
   ·obtain⟨y,_,rfl⟩:=cN.1 d;intro n m;rw[Bv]at m;simp at m
  |row=>simp at r
  |fL=>simp at r
  |dead=>simp at r
 |fp cs j=>
  obtain⟨M,C⟩:=cG h;have M:=cM M;obtain rfl:=aJ C;obtain⟨b,rfl,hb⟩:=hp;refine lT (by simp;omega) (λq x d=> ?_) (λx d=> ?_)
  ·rw[bI,dP]at d;split at d
   ·rw[dO]at d;cases A:cs[j+q]? with
    |none=>rw[A]at d;cases d
    |some y=>rw[A]at d;cases d;obtain⟨u,hu,hv⟩:=hb.2 (j+q) y A;exact⟨u,hu,Lw hv⟩
   ·cases d
  ·obtain⟨y,_,rfl⟩:=cN.1 d;intro n m;rw[Bv]at m;simp at m
 |sp e B i j=>
  obtain⟨te,N,r⟩:=Rd.bind_some h;have N:=dE N;obtain⟨hk,C⟩:=cG r;have hk:=qX hk;obtain rfl:=aJ C;obtain⟨b,o,cp,h4,hh,hi,I,rfl⟩:=hp;obtain rfl:te=h4:=aJ (N.symm.trans I);refine lT (kh _ _ _ _) (λq x d=> ?_) (λx d=> ?_)
  ·rw[lk]at d;obtain⟨hf,U,hL⟩:=hh.Hh (by omega);obtain rfl:te=hf:=aJ (N.symm.trans hL.ty);have hq:q<ti.ks.length:=by
    cases hq:ti.ks[q]? with
    |none=>rw[hq]at d;cases d
    |some k=>exact(aW.1 hq).1
   have A:B[i]? =ai B[i]:=by simp[hi]
   obtain⟨z,H,f⟩:=qt (hL.sh B[i] (bw hi)) hk hq;rw[f]at d;cases d;rw[eI A H];exact⟨U i (j+q),by have:=hL.cell i (j+q) _ z A H;rwa[show o+i*te.ks.length+j+q=o+i*te.ks.length+(j+q)by omega],IK (hL.lR i (j+q) _ z A H)⟩
  ·obtain⟨q,hq⟩:=bX d;rw[lk]at hq;cases f:ti.ks[q]? with
   |none=>rw[f]at hq;cases hq
   |some k=>rw[f]at hq;cases hq;intro n m;exact K n _ _ m
 |rp nm i j=>
  obtain⟨o,Y,r⟩:=Rd.bind_some h;have Y:=dh Y;have Q:=h7.obj nm o Y;obtain⟨hi,rfl⟩:=hp;cases o with
  |row e ex B=>
   obtain⟨te,N,r⟩:=Rd.bind_some r;have N:=dE N;obtain⟨hk,C⟩:=cG r;have hk:=qX hk;have C:(ex=ao/\plain ti.ks=ao/\xs=um B i j ti.ks)\/((ex=aq\/vr nm=aq)/\xs=bif ex then zF nm B i j ti.ks else um B i j ti.ks):=by
    cases hF:(ex&&vr nm)with
    |true=>rw[hF,aw]at C;obtain⟨h1,C⟩:=cG C;rw[aM]at hF;exact .inl ⟨hF.1,h1,(aJ C).symm⟩
    |false=>
     rw[hF,ax]at C;refine .inr ⟨?_,(aJ C).symm⟩;cases ex with
     |false=>exact .inl rfl
     |true=>exact .inr (by simpa using hF)
   obtain⟨⟨h4,I,he,jG⟩,S,_⟩:=Q;obtain rfl:te=h4:=aJ (N.symm.trans I);have X:(c.P nm).nil=false:=by
    cases m:(c.P nm).nil with
    |false=>rfl
    |true=>have:=(S.nil m).1;subst this;rw[S.n]at hi;simp at hi
   obtain⟨h9,hb,x9,_,x6,h5⟩:=S.mem X;have O:i<B.length:=by rw[<-S.n];exact hi
   have A:B[i]? =ai B[i]:=by simp[O]
   rcases C with ⟨rfl,h1,rfl⟩|C
   ·refine lT (kh _ _ _ _) (λq x d=> ?_) (λx d=> ?_)
    ·have hq:q<ti.ks.length:=by have:=(aW.1 d).1;simpa [kh]using this
     obtain⟨z,H,f⟩:=qt (jG B[i] (bw O)) hk hq;obtain⟨u,hu,R⟩:=h5 i _ (j+q) z A H;rw[bm rfl]at R;rw[lk,f]at d;cases d;refine⟨u,?_,?_⟩
     ·rw[hb.cell];rw[<-hu];congr 1;omega
     ·have x5:=bz.1 h1 z.kd (aU f);show ed E w c (dec z.kd (av B i (j+q))) u;rw[eI A H];cases z with
      |l e2 zs=>cases x5
      |i k n=>exact oP rfl R
      |b t=>exact oP rfl R
      |s t=>exact oP rfl R
    ·obtain⟨q,hq⟩:=bX d;intro n m;rw[lk]at hq;cases f:ti.ks[q]? with
     |none=>rw[f]at hq;cases hq
     |some k=>rw[f]at hq;cases hq;exact K n _ _ m
   obtain⟨hw,rfl⟩:=C;refine lT (by cases ex<;>simp[kh,ze]) (λq x d=> ?_) (λx d=> ?_)
   ·have hq:q<ti.ks.length:=by have:=(aW.1 d).1;cases ex<;>simpa [kh,ze]using this
    obtain⟨z,H,f⟩:=qt (jG B[i] (bw O)) hk hq;obtain⟨u,hu,R⟩:=h5 i _ (j+q) z A H;refine⟨u,?_,?_⟩
    ·rw[hb.cell];rw[<-hu];congr 1;omega
    ·cases ex with
     |false=>rw[bh (by simp)]at R;have d:(um B i j ti.ks)[q]? =ai x:=d;rw[lk,f]at d;cases d;rw[eI A H];exact IK R
     |true=>
      rw[bm rfl]at R;have d:(zF nm B i j ti.ks)[q]? =ai x:=d;rw[GX,f]at d;cases z with
      |l e2 zs=>cases d;exact⟨⟨hi,R.1⟩,hw.resolve_left (by simp)⟩
      |i k n=>cases d;rw[eI A H];exact oP rfl R
      |b t=>cases d;rw[eI A H];exact oP rfl R
      |s t=>cases d;rw[eI A H];exact oP rfl R
   ·obtain⟨q,hq⟩:=bX d;intro n m;cases ex with
    |false=>
     have hq:(um B i j ti.ks)[q]? =ai x:=hq;rw[lk]at hq;cases f:ti.ks[q]? with
     |none=>rw[f]at hq;cases hq
     |some k=>rw[f]at hq;cases hq;exact K n _ _ m
    |true=>
     have hq:(zF nm B i j ti.ks)[q]? =ai x:=hq;rw[GX]at hq;cases f:ti.ks[q]? with
     |none=>rw[f]at hq;cases hq
     |some k=>
      rw[f]at hq;cases k with
      |l e2=>cases hq;simp[bL]at m;subst m;rw[Y];simp
      |i=>cases hq;exact K n _ _ m
      |b=>cases hq;exact K n _ _ m
      |s=>cases hq;exact K n _ _ m
      |o=>cases hq;exact K n _ _ m
  |fL e B=>
   obtain⟨te,N,r⟩:=Rd.bind_some r;have N:=dE N;obtain⟨hk,C⟩:=cG r;have hk:=qX hk;obtain rfl:=aJ C;obtain⟨hh,m,h4,I,he⟩:=Q;obtain rfl:te=h4:=aJ (N.symm.trans I);have O:i<B.length:=by rw[<-m];exact hi
   have A:B[i]? =ai B[i]:=by simp[O]
   have X:(c.P nm).nil=false:=by
    cases hq:(c.P nm).nil with
    |false=>rfl
    |true=>unfold j5 at hh;rw[bm hq]at hh;cases hh;simp at O
   unfold j5 at hh;rw[bh (by simp[X]),m]at hh;refine lT (kh _ _ _ _) (λq x d=> ?_) (λx d=> ?_)
   ·rw[lk]at d;obtain⟨hf,U,hL⟩:=hh.Hh (by omega);obtain rfl:te=hf:=aJ (N.symm.trans hL.ty);have hq:q<ti.ks.length:=by
     cases hq:ti.ks[q]? with
     |none=>rw[hq]at d;cases d
     |some k=>exact(aW.1 hq).1
    obtain⟨z,H,f⟩:=qt (hL.sh B[i] (bw O)) hk hq;rw[f]at d;cases d;rw[eI A H];exact⟨U i (j+q),by have:=hL.cell i (j+q) _ z A H;rw[<-this];congr 2;rw[he];omega,IK (hL.lR i (j+q) _ z A H)⟩
   ·obtain⟨q,hq⟩:=bX d;rw[lk]at hq;cases f:ti.ks[q]? with
    |none=>rw[f]at hq;cases hq
    |some k=>rw[f]at hq;cases hq;intro n m;exact K n _ _ m
  |box=>simp at r
  |nI=>simp at r
  |dead=>simp at r
 |ip nm i j i2 j2=>
  obtain⟨o,Y,r⟩:=Rd.bind_some h;have Y:=dh Y;have Q:=h7.obj nm o Y;obtain⟨⟨x0,hi,rfl⟩,x8⟩:=hp;cases o with
  |row e ex B=>
   cases ex with
   |false=>simp at r
   |true=>
    obtain⟨te,N,r⟩:=Rd.bind_some r;have N:=dE N;split at r
    ·rename_i e2 x1;obtain⟨t2,I,r⟩:=Rd.bind_some r;have I:=dE I;obtain⟨hk,C⟩:=cG r;have hk:=qX hk;obtain rfl:=aJ C;obtain⟨⟨tj,x2,he,jG⟩,S,_⟩:=Q;obtain rfl:te=tj:=aJ (N.symm.trans x2);obtain⟨zs,y,A,x4,uu,_,tk,x3,h1,x7,h8,V⟩:=qq (c:=c) S jG x0 x1;obtain rfl:t2=tk:=aJ (I.symm.trans x3);rw[eI A x4];refine lT (kh _ _ _ _) (λq x d=> ?_) (λx d=> ?_)
     ·rw[lk]at d;have hq:q<ti.ks.length:=by
       cases hq:ti.ks[q]? with
       |none=>rw[hq]at d;cases d
       |some k=>exact(aW.1 hq).1
      have h6:i2<zs.length:=by rw[<-V.n];exact hi
      have ha:(c.G nm i j).nil=false:=by
       cases m:(c.G nm i j).nil with
       |false=>rfl
       |true=>have:=(V.nil m).1;subst this;simp at h6
      obtain⟨h9,hb,_,_,_,h5⟩:=V.mem ha;have hj:zs[i2]? =ai zs[i2]:=by simp[h6]
      obtain⟨z,H,f⟩:=qt (h8 zs[i2] (bw h6)) hk hq;obtain⟨u,hu,R⟩:=h5 i2 _ (j2+q) z hj H;rw[f]at d;cases d;refine⟨u,?_,?_⟩
      ·rw[hb.cell,<-hu];congr 1;omega
      ·show ed E w c (dec z.kd (av zs i2 (j2+q))) u;rw[eI hj H];exact oP (gF h1 (h8 _ (bw h6)) H) R
     ·obtain⟨q,hq⟩:=bX d;rw[lk]at hq;cases f:ti.ks[q]? with
      |none=>rw[f]at hq;cases hq
      |some k=>rw[f]at hq;cases hq;intro n m;exact K n _ _ m
    ·simp at r
  |fL=>simp at r
  |box=>simp at r
  |nI=>simp at r
  |dead=>simp at r
 |i=>simp[rN]at h
 |b=>simp[rN]at h
 |s=>simp[rN]at h
 |sh=>simp[rN]at h
 |nl=>simp[rN]at h
 |own=>simp[rN]at h
 |vw=>simp[rN]at h
 |lR=>simp[rN]at h
 |iv=>simp[rN]at h
 |fn=>simp[rN]at h
end
end Go.FG
namespace Go.FG
section
variable {P:de} {E:fW} {σ:St} {a:Act} {w:cB} {c:gn} {o:gK} {nm:aN} {e:sj}
theorem iI(d:s.run P w=.ok v w'):(do pure (Next.value (<-s)):Sem Next).run P w=.ok (.value v) w':=by simp only[cg,d,bH,cU]
theorem fP(f:Ok E σ w c)(i:e6 E σ a w c)(hd:∀d,o.dst=ai d->d<a.tmps.size)(h:(val o s).val σ=ai e)(hs:iM E w c s v)(hk:mf σ s)(j:(execOp a.eval o).run P w=.ok (.value v) w):gw P E σ a w c o e.ws:=by obtain rfl:=aJ h;exact fO f i hd hs hk j
theorem DP(i:Ok E σ w c)(j:e6 E σ a w c)(hd:∀d,o.dst=ai d->d<a.tmps.size)(h:(JQ o b x).val σ=ai e)(f:e.cond=ao)(hs:b=ao->ed E w c x v)(hk:iU σ x)(m:b=ao->(execOp a.eval o).run P w=.ok (.value v) w):gw P E σ a w c o e.ws:=by obtain rfl:=aJ h;have f:b=true:=f;exact fO i j hd (hs f) (λn k=>hk n (by simpa [cF]using k)) (m f)
theorem tF(h:bL x=[]):iU σ x:=λn d=>by rw[h]at d;simp at d
theorem LF(j:Ok E σ w c)(i:e6 E σ a w c)(hd:∀d,o.dst=ai d->d<a.tmps.size)(f:o.op=.move x\/o.op=.assign x)(h:(lE E nm o).val σ=ai e):gw P E σ a w c o e.ws:=by
 have k:((FF x).bind λv=>val o v).val σ=ai e:=by rcases f with f|f<;>simpa [lE,f]using h
 obtain⟨v,m,r⟩:=Rd.bind_some k;obtain⟨s,hk⟩:=lN i m;refine fP j i hd r s hk ?_;rcases f with f|f<;>(unfold execOp;rw[f];rfl)
theorem Hr(m:Ok E σ w c)(k:e6 E σ a w c)(hd:∀d,o.dst=ai d->d<a.tmps.size)(s:o.op=.nilCheck x)(h:(lE E nm o).val σ=ai e):gw P E σ a w c o e.ws:=by
 simp only[lE,s]at h;obtain⟨p,u,h⟩:=Rd.bind_some h;obtain⟨ex,t⟩:=iJ k u;cases p with
 |bp n j=>have f:a.eval x=.pointer (ai (ad (c.P n).blk j)):=ex;refine fP m k hd h (v:=a.eval x) ex (λn r=>t n (by simpa [cF]using r)) ?_;unfold execOp;rw[s];simp only[f];rfl
 |rp n i j=>have f:a.eval x=.pointer (ai (ad (c.P n).blk ((c.P n).off+i*(c.P n).sz+j))):=ex.2;refine fP m k hd h (v:=a.eval x) ex (λn r=>t n (by simpa [cF]using r)) ?_;unfold execOp;rw[s];simp only[f];rfl
 |_=>cases h
theorem Wg(j:Ok E σ w c)(f:e6 E σ a w c)(hd:∀d,o.dst=ai d->d<a.tmps.size)(I:o.op=.pick x y z)(h:(lE E nm o).val σ=ai e)(H:e.cond=ao):gw P E σ a w c o e.ws:=by
 simp only[lE,I]at h;obtain⟨K,N,h⟩:=Rd.bind_some h;obtain⟨r,O,h⟩:=Rd.bind_some h;obtain⟨m,Q,h⟩:=Rd.bind_some h;obtain⟨ex,X⟩:=iJ f N;obtain⟨B,S⟩:=lN f O;obtain⟨C,U⟩:=lN f Q;have run:∀b,a.eval x=.bool b->(execOp a.eval o).run P w=.ok (.value (if b then a.eval y else a.eval z)) w:=by intro b t;unfold execOp;rw[I];simp only[t,asBool,cg,cU,bH]
 cases K with
 |b b=>
  replace ex:a.eval x=.bool b:=ex;have both:∀p q,r=.v aq [.b p]->m=.v aq [.b q]->gw P E σ a w c o e.ws:=by
   rintro p q rfl rfl;refine fP j f hd h (v:=if b then a.eval y else a.eval z) ?_ (λn R=>by simp[cF,bL]at R) (run b ex);cases b
   ·exact C
   ·exact B
  have A:r=.jS []->gw P E σ a w c o e.ws:=by
   rintro rfl;replace h:(Rd.ret (⟨!b,dw o m⟩:sj)).val σ=ai e:=by cases m<;>exact h
   obtain rfl:=aJ h;have t:b=false:=by simpa using H
   subst t;exact fO j f hd C U (run aq ex)
  have k:m=.jS []->r≠ .jS []->gw P E σ a w c o e.ws:=by
   rintro rfl u;replace h:(Rd.ret (⟨b,dw o r⟩:sj)).val σ=ai e:=by
    cases r with
    |un=>exact h
    |jS l=>cases l with
     |nil=>exact cJ rfl u
     |cons=>exact h
    |v g xs=>cases g<;>(rcases xs with _|⟨⟨⟩,_|⟨_,_⟩⟩<;>exact h)
   obtain rfl:=aJ h;have t:b=true:=H;subst t;exact fO j f hd B S (run ao ex)
  cases r with
  |un=>cases m with
   |un=>simp at h
   |jS l=>cases l with
    |nil=>exact k rfl (by simp)
    |cons=>simp at h
   |v=>simp at h
  |jS l=>cases l with
   |nil=>exact A rfl
   |cons=>cases m with
    |un=>simp at h
    |jS l2=>cases l2 with
     |nil=>exact k rfl (by simp)
     |cons=>simp at h
    |v=>simp at h
  |v g xs=>cases m with
   |un=>simp at h
   |jS l2=>cases l2 with
    |nil=>exact k rfl (by simp)
    |cons=>simp at h
   |v M V=>cases g<;>cases M<;>rcases xs with _|⟨⟨⟩,_|⟨_,_⟩⟩<;>rcases V with _|⟨⟨⟩,_|⟨_,_⟩⟩<;>first|(simp at h;done)|exact both _ _ rfl rfl
 |i=>simp at h
 |s=>simp at h
 |sh=>simp at h
 |nl=>simp at h
 |own=>simp at h
 |vw=>simp at h
 |bp=>simp at h
 |rp=>simp at h
 |sp=>simp at h
 |lR=>simp at h
 |ip=>simp at h
 |iv=>simp at h
 |fn=>simp at h
 |fp=>simp at h
theorem Wf(hE:dY P E)(s:Ok E σ w c)(y:e6 E σ a w c)(hd:∀d,o.dst=ai d->d<a.tmps.size)(I:o.op=.load t p)(h:(lE E nm o).val σ=ai e):gw P E σ a w c o e.ws:=by
 simp only[lE,I]at h;obtain⟨ti,A,h⟩:=Rd.bind_some h;obtain⟨V,N,h⟩:=Rd.bind_some h;obtain⟨xs,O,h⟩:=Rd.bind_some h;have K:=dE A;obtain⟨M,_⟩:=iJ y N;obtain⟨⟨b,of,cs,S,hl,i,f,m⟩,H⟩:=QW s M O;have R:=B0 (P:=P) w hE K hl i;refine fP s y hd h (v:=if ti.agg=ao then .agg cs.toArray else cs.headD .nilIface) ?_ (λn r=>by obtain⟨x,z,r⟩:=bM.1 r;exact H x z n r) ?_
 ·show pO E w c ti.agg xs _;cases C:ti.agg with
  |true=>rw[bm rfl];exact⟨cs.toArray,rfl,by simp[hl,f],λj x Q=>by obtain⟨u,B,z⟩:=m j x Q;exact⟨u,by simpa using B,z⟩⟩
  |false=>
   obtain⟨d,_,_,r⟩:=hE.desc t ti K;have A:ti.ks.length=1:=by rcases r C with ⟨k,h,_⟩|⟨h,_⟩|⟨h,_⟩|⟨U,h,_⟩|⟨h,_⟩<;>simp[h]
   obtain⟨x,rfl⟩:=gE.1 (f.trans A);obtain⟨v,rfl⟩:=gE.1 (hl.trans A);obtain⟨u,B,z⟩:=m 0 x rfl;simp at B;subst B;simpa [pO]using z
 ·unfold execOp;rw[I];exact iI (by rw[S];exact R)
theorem FC(hE:dY P E)(x:Ok E σ w c)(u:e6 E σ a w c)(hd:∀d,o.dst=ai d->d<a.tmps.size)(M:o.op=.fieldAddr t p f)(h:(lE E nm o).val σ=ai e):gw P E σ a w c o e.ws:=by
 simp only[lE,M]at h;obtain⟨S,R,h⟩:=Rd.bind_some h;obtain⟨q,m,h⟩:=Rd.bind_some h;obtain⟨y,kp⟩:=iJ u R;unfold Qc at m;cases H:E.fo t f with
 |none=>rw[H]at m;simp at m
 |some r=>
  obtain⟨off,n⟩:=r;rw[H]at m;have run:∀b A,a.eval p=.pointer (ai (ad b A))->(execOp a.eval o).run P w=.ok (.value (.pointer (ai (ad b (A+off))))) w:=by intro b A hp;unfold execOp;rw[M];exact iI (by rw[hp];exact HC (P:=P) w hE H b A)
  cases S with
  |bp k j=>obtain rfl:=aJ m;exact fP x u hd h (s:=.v aq [.bp k (j+off)]) (v:=.pointer (ai (ad (c.P k).blk (j+off)))) rfl (λn z=>kp n (by simpa [cF,bL]using z)) (run _ _ y)
  |rp k i j=>obtain rfl:=aJ m;refine fP x u hd h (s:=.v aq [.rp k i (j+off)]) ?_ (λn z=>kp n (by simpa [cF,bL]using z)) (run _ _ y.2);exact⟨y.1,by rw[show(c.P k).off+i*(c.P k).sz+j+off=(c.P k).off+i*(c.P k).sz+(j+off)by omega]⟩
  |sp N xs i j=>obtain rfl:=aJ m;obtain⟨b,A,cp,ti,C,B,O,Q⟩:=y;refine fP x u hd h (s:=.v aq [.sp N xs i (j+off)]) ?_ (λn z=>by simp[cF,bL]at z) (run _ _ Q);exact⟨b,A,cp,ti,C,B,O,by rw[show A+i*ti.ks.length+j+off=A+i*ti.ks.length+(j+off)by omega]⟩
  |ip k i j I K=>obtain rfl:=aJ m;refine fP x u hd h (s:=.v aq [.ip k i j I (K+off)]) ?_ (λn z=>kp n (by simpa [cF,bL]using z)) (run _ _ y.1.2.2);exact⟨⟨y.1.1,y.1.2.1,by rw[show(c.G k i j).off+I*(c.G k i j).sz+K+off=(c.G k i j).off+I*(c.G k i j).sz+(K+off)by omega]⟩,y.2⟩
  |fp cs j=>obtain rfl:=aJ m;obtain⟨b,C,B⟩:=y;exact fP x u hd h (s:=.v aq [.fp cs (j+off)]) ⟨b,rfl,B⟩ (λn z=>by simp[cF,bL]at z) (run _ _ C)
  |i=>simp at m
  |b=>simp at m
  |s=>simp at m
  |sh=>simp at m
  |nl=>simp at m
  |own=>simp at m
  |vw=>simp at m
  |lR=>simp at m
  |iv=>simp at m
  |fn=>simp at m
theorem Jq(j:Ok E σ w c)(f:e6 E σ a w c)(hd:∀d,o.dst=ai d->d<a.tmps.size)(k:o.op=.extract x i)(h:(lE E nm o).val σ=ai e):gw P E σ a w c o e.ws:=by
 simp only[lE,k]at h;obtain⟨v,t,h⟩:=Rd.bind_some h;obtain⟨s,B⟩:=lN f t;split at h
 ·rename_i l;split at h
  ·rename_i agg xs hl;obtain⟨vs,m,C,r⟩:=s;obtain⟨u,z,A⟩:=r i agg xs hl;refine fP j f hd h (v:=u) A (λn y=>B n (bM.2 ⟨(agg,xs),aU hl,y⟩)) ?_;unfold execOp;rw[k];refine iI ?_;rw[m];simp only[Instr.extract,z];rfl
  ·simp at h
 ·simp at h
theorem Wh(j:Ok E σ w c)(f:e6 E σ a w c)(hd:∀d,o.dst=ai d->d<a.tmps.size)(r:o.op=.unOp op t x)(h:(lE E nm o).val σ=ai e):gw P E σ a w c o e.ws:=by
 simp only[lE,r]at h;obtain⟨v,u,h⟩:=Rd.bind_some h;obtain⟨s,y⟩:=iJ f u;cases op with
 |not=>
  cases v with
  |b b=>refine fP j f hd h (v:=.bool !b) rfl (λn m=>by simp[cF,bL]at m) ?_;unfold execOp;rw[r];refine iI ?_;rw[show a.eval x=.bool b from s];rfl
  |_=>simp at h
 |neg=>
  cases v with
  |i k n=>refine fP j f hd h (v:=.int k (k.wrap (0-n))) rfl (λn m=>by simp[cF,bL]at m) ?_;unfold execOp;rw[r];refine iI ?_;rw[show a.eval x=.int k n from s];rfl
  |_=>simp at h
 |_=>cases v<;>simp at h
theorem q0(h:(py E t).val σ=ai k):∃ti,E.ty t=ai ti/\ti.agg=aq/\ti.ks=[k]:=by
 obtain⟨ti,f,d⟩:=Rd.bind_some h;split at d
 ·rename_i k' i j;simp at d;subst d;exact⟨ti,dE f,i,j⟩
 ·simp at d
theorem kg{E:fW}{σ:St}(hE:dY P E){t e:aN}(h:(py E t).val σ=ai (.l e)):P.underlying t=ai (.slice e):=by obtain⟨ti,d,f,i⟩:=q0 h;exact oQ hE d f i
theorem kI(hE:dY P E)(h:(py E t).val σ=ai .s):P.underlying t=ai .string:=by obtain⟨ti,f,i,j⟩:=q0 h;obtain⟨d,hd,_,m⟩:=hE.desc t ti f;rcases m i with ⟨k,h,_⟩|⟨h,_⟩|⟨h,rfl⟩|⟨r,h,_⟩|⟨h,_⟩<;>rw[j]at h<;>simp_all
theorem Rs(hE:dY P E)(m:Ok E σ w c)(f:e6 E σ a w c)(hd:∀d,o.dst=ai d->d<a.tmps.size)(u:o.op=.index t x y)(h:(lE E nm o).val σ=ai e)(C:e.cond=ao):gw P E σ a w c o e.ws:=by
 simp only[lE,u]at h;obtain⟨kk,h0,h⟩:=Rd.bind_some h;obtain⟨v,A,h⟩:=Rd.bind_some h;obtain⟨⟨k,n⟩,B,h⟩:=Rd.bind_some h;obtain⟨j,K⟩:=iJ f A;have z:=pA f B;cases kk with
 |s=>cases v with
  |s s=>
   have H:=kI hE h0;refine DP m f hd h C (v:=.int .u8 ((s.data.getD n.toNat 0).toNat:ay)) (λ_=>rfl) (tF rfl) (λr=> ?_);simp only[aM,bf]at r;obtain⟨h0,I⟩:=r;unfold execOp;rw[u];refine iI ?_;replace j:a.eval x=.string s:=j.1;have i:n.toNat<s.size:=by omega
   have hg:s[n.toNat]? =ai s[n.toNat]:=by simp[i]
   have hs:s[n.toNat]=s.data.getD n.toNat 0:=by rw[Array.getD,dif_pos (show n.toNat<s.data.size from i)];rfl
   simp only[j,z,Instr.index,asIntOf,cg,cU,bH,run_underlying H,h0,if_true,hg,hs]
  |_=>simp at h
 |_=>simp at h
end
end Go.FG
namespace Go.FG
section
variable {P:de} {E:fW} {σ:St} {a:Act} {w:cB} {c:gn} {o:gK} {nm:aN} {e:sj}
theorem qc(h:(bif b then Rd.ret x else Rd.fail).val σ=ai r):b=ao/\r=x:=by obtain⟨d,f⟩:=cG h;exact⟨d,(aJ f).symm⟩
theorem eB(h:p.nil=aq):j5 p=.slice (ai (ad p.blk p.off)) p.n p.cap:=by unfold j5;rw[bh (by simp[h])]
theorem mo(h:p.nil=ao):j5 p=.slice aj 0 0:=by unfold j5;rw[bm h]
theorem kK{nm e:aN}{ex:aY}{xs:Row}(i:Ok E σ w c)(h:σ (c6 nm)=.o (.row e ex xs)):
  (c.P nm).n=xs.length/\((c.P nm).nil=ao->xs=[])/\∃ti,E.ty e=ai ti/\(c.P nm).sz=ti.ks.length/\((c.P nm).nil=aq->(c.P nm).n<=(c.P nm).cap/\(c.P nm).cap<=maxLen):=by have d:=i.obj nm _ h;obtain⟨ti,j,k,_⟩:=d.sh;exact⟨d.at_.n,λf=>(d.at_.nil f).1,ti,j,k,λf=>by obtain⟨_,_,m,r,_⟩:=d.at_.mem f;exact⟨m,r⟩⟩
theorem mu{nm e:aN}{xs:Row}(d:Ok E σ w c)(h:σ (c6 nm)=.o (.fL e xs)):
  (c.P nm).n=xs.length/\((c.P nm).nil=ao->xs=[])/\∃ti,E.ty e=ai ti/\(c.P nm).sz=ti.ks.length:=by
 obtain⟨f,i,j⟩:=d.obj nm _ h;refine⟨i,λk=> ?_,j⟩
 rw[mo k]at f;cases f;rfl
theorem FD(hE:dY P E)(r:Ok E σ w c)(H:e6 E σ a w c)(hd:∀d,o.dst=ai d->d<a.tmps.size)(ho:o.op=.indexAddr t x y)(h:(lE E nm o).val σ=ai e)(A:e.cond=ao):gw P E σ a w c o e.ws:=by
 simp only[lE,ho]at h;obtain⟨kk,h0,h⟩:=Rd.bind_some h;cases kk with
 |l el=>
  obtain⟨v,h1,h⟩:=Rd.bind_some h;obtain⟨⟨k,n⟩,h2,h⟩:=Rd.bind_some h;obtain⟨⟨b,q⟩,u,h⟩:=Rd.bind_some h;obtain⟨V,kv⟩:=iJ H h1;have ei:=pA H h2;have hu:=kg hE h0;have run:∀te b o' m cp,E.ty el=ai te->a.eval x=.slice (ai (ad b o')) m cp->0<=n->n<(m:ay)->(execOp a.eval o).run P w=.ok (.value (.pointer (ai (ad b (o'+n.toNat*te.ks.length))))) w:=by intro te b o' m cp hr R h0 h1;unfold execOp;rw[ho];refine iI ?_;rw[R,ei];exact HD (P:=P) w hE hu hr b o' m cp k n h0 h1
  cases v with
  |sh O xs=>
   obtain⟨z,u⟩:=qc u;obtain⟨rfl,rfl⟩:=bU u;have:=aX z;subst this;obtain rfl:=aJ h;have A:(ah (0<=n)&&ah (n<(xs.length:ay)))=true:=A;simp only[aM,bf]at A;obtain⟨c0,I⟩:=A;have V:Holds E w c.K (a.eval x) (.l el xs):=V;generalize hv:a.eval x=v at V;have hj:0<xs.length:=by omega
   cases V with
   |nl=>simp at hj
   |l _ _ bb oo cc ti U N S hh hK hs h5 he=>exact fO r H hd (s:=.v aq [.sp el xs n.toNat 0]) (v:=.pointer (ai (ad bb (oo+n.toNat*ti.ks.length)))) ⟨bb,oo,cc,ti,.l el xs bb oo cc ti U N S hh hK hs h5 he,by omega,N,rfl⟩ (λn hn=>by simp[cF,bL]at hn) (run ti bb oo _ cc N hv c0 I)
  |own f=>
   obtain⟨ob,hg,u⟩:=Rd.bind_some u;have hg:=dh hg;have B:∀(xs:Row),(c.P f).n=xs.length->((c.P f).nil=ao->xs=[])->(∃ti,E.ty el=ai ti/\(c.P f).sz=ti.ks.length)->(b,q)=(ah (0<=n)&&ah (n<(xs.length:ay)),AV.rp f n.toNat 0)->gw P E σ a w c o e.ws:=by
    intro xs hn h8 h6 Y;obtain⟨rfl,rfl⟩:=bU Y;obtain rfl:=aJ h;have A:(ah (0<=n)&&ah (n<(xs.length:ay)))=true:=A;simp only[aM,bf]at A;obtain⟨c0,I⟩:=A;obtain⟨ti,N,Q⟩:=h6;have C:(c.P f).nil=false:=by
     cases hq:(c.P f).nil with
     |false=>rfl
     |true=>rw[h8 hq]at I;simp at I;omega
    have R:a.eval x=.slice (ai (ad (c.P f).blk (c.P f).off)) (c.P f).n (c.P f).cap:=by rw[<-eB C];exact V
    refine fO r H hd (s:=.v aq [.rp f n.toNat 0]) (v:=.pointer (ai (ad (c.P f).blk ((c.P f).off+n.toNat*ti.ks.length)))) ⟨by omega,by rw[Q];rfl⟩ (λm hm=>by simp[cF,bL]at hm;subst hm;rw[hg];simp) (run ti _ _ _ _ N R c0 (by rw[hn];exact I))
   cases ob with
   |row O ex xs=>obtain⟨z,X⟩:=qc u;have:=aX z;subst this;obtain⟨i1,i2,ti,i3,i4,_⟩:=kK r hg;exact B xs i1 i2 ⟨ti,i3,i4⟩ X
   |fL O xs=>obtain⟨z,X⟩:=qc u;have:=aX z;subst this;obtain⟨i1,i2,i3⟩:=mu r hg;exact B xs i1 i2 i3 X
   |_=>simp at u
  |vw f lo hi=>
   obtain⟨ob,hg,u⟩:=Rd.bind_some u;have hg:=dh hg;have B:∀(xs:Row),(c.P f).n=xs.length->(∃ti,E.ty el=ai ti/\(c.P f).sz=ti.ks.length)->(b,q)=(ah (0<=n)&&ah (n<((hi-lo:aN):ay)),AV.rp f (lo+n.toNat) 0)->gw P E σ a w c o e.ws:=by
    intro xs hn h6 Y;obtain⟨rfl,rfl⟩:=bU Y;obtain rfl:=aJ h;have A:(ah (0<=n)&&ah (n<((hi-lo:aN):ay)))=true:=A;simp only[aM,bf]at A;obtain⟨c0,I⟩:=A;obtain⟨ti,N,Q⟩:=h6;obtain⟨v1,v2,v3,v4⟩:=V;have C:(c.P f).nil=false:=by
     cases hq:(c.P f).nil with
     |false=>rfl
     |true=>
      obtain⟨f1,_⟩:(c.P f).n=0/\True:=by
       have x3:=r.obj f _ hg;rw[hn];cases ob with
       |row O ex ys=>obtain⟨j1,j2,_⟩:=kK r hg;rw[<-hn,j1,j2 hq];simp
       |fL O ys=>obtain⟨j1,j2,_⟩:=mu r hg;rw[<-hn,j1,j2 hq];simp
       |_=>simp at u
      omega
    rcases v4 C with ⟨u1,R⟩|⟨u1,oo,u2,R⟩
    ·refine fO r H hd (s:=.v aq [.rp f (lo+n.toNat) 0]) (v:=.pointer (ai (ad (c.P f).blk ((c.P f).off+lo*(c.P f).sz+n.toNat*ti.ks.length)))) ⟨by omega,?_⟩ (λm hm=>by simp[cF,bL]at hm;subst hm;rw[hg];simp) (run ti _ _ _ _ N R c0 I);rw[<-Q,show(c.P f).off+(lo+n.toNat)*(c.P f).sz+0=(c.P f).off+lo*(c.P f).sz+n.toNat*(c.P f).sz by rw[dc];omega]
    ·exfalso;have S:(c.P f).n<=(c.P f).cap:=by
      cases ob with
      |row O ex ys=>obtain⟨_,_,_,_,_,j⟩:=kK r hg;exact(j C).1
      |fL O ys=>
       obtain⟨j1,j2,_⟩:=r.obj f _ hg;rw[eB C]at j1;by_cases hz:0<ys.length
       ·obtain⟨t3,U,L⟩:=j1.Hh hz;rw[j2];exact L.cap
       ·omega
      |_=>simp at u
     omega
   cases ob with
   |row O ex xs=>obtain⟨z,X⟩:=qc u;have:=aX z;subst this;obtain⟨i1,i2,ti,i3,i4,_⟩:=kK r hg;exact B xs i1 ⟨ti,i3,i4⟩ X
   |fL O xs=>obtain⟨z,X⟩:=qc u;have:=aX z;subst this;obtain⟨i1,i2,i3⟩:=mu r hg;exact B xs i1 i3 X
   |_=>simp at u
  |lR f i j=>
   obtain⟨ob,hg,u⟩:=Rd.bind_some u;have hg:=dh hg;cases ob with
   |row O ex xs=>
    cases ex with
    |false=>simp at u
    |true=>
     obtain⟨te,N,u⟩:=Rd.bind_some u;have N:=dE N;split at u
     ·rename_i e2 hf;obtain⟨z,u⟩:=qc u;obtain⟨rfl,rfl⟩:=bU u;have:=aX z;subst this;obtain rfl:=aJ h;obtain⟨⟨h7,R⟩,ha⟩:=V;obtain⟨⟨tj,hw,Q,jG⟩,hb,_⟩:=r.obj f _ hg;obtain rfl:te=tj:=aJ (N.symm.trans hw);obtain⟨zs,y',hy,x1,uu,_,tk,x0,x4,h9,x2,M⟩:=qq (c:=c) hb jG h7 hf;have A:(ah (0<=n)&&ah (n<((iH (av xs i j)).length:ay)))=true:=A;rw[eI hy x1]at A;simp only[aM,bf]at A;obtain⟨c0,I⟩:=A;have I:n<(zs.length:ay):=I;have C:(c.G f i j).nil=false:=by
       cases hq:(c.G f i j).nil with
       |false=>rfl
       |true=>have:=(M.nil hq).1;subst this;simp at I;omega
      rw[eB C]at R;refine fO r H hd (s:=.v aq [.ip f i j n.toNat 0]) (v:=.pointer (ai (ad (c.G f i j).blk ((c.G f i j).off+n.toNat*tk.ks.length)))) ⟨⟨h7,by rw[M.n];omega,by rw[h9];rfl⟩,ha⟩ (λm hm=>by simp[cF,bL]at hm;subst hm;rw[hg];simp) (run tk _ _ _ _ x0 R c0 (by rw[M.n];exact I))
     ·simp at u
   |_=>simp at u
  |_=>simp[Qr]at u
 |_=>simp at h
end
end Go.FG
namespace Go.FG
section
variable {P:de} {E:fW} {σ:St} {a:Act} {w:cB} {c:gn} {o:gK} {nm:aN} {e:sj}
theorem Ao(f:e6 E σ a w c)(h:(mA x d).val σ=ai n):(x=aj/\n=d)\/∃y k,x=ai y/\a.eval y=.int k n:=by
 cases x with
 |none=>exact .inl ⟨rfl,(aJ h).symm⟩
 |some y=>obtain⟨⟨k,m⟩,i,j⟩:=Rd.bind_some h;obtain rfl:=aJ j;exact .inr ⟨y,k,rfl,pA f i⟩
theorem DK{x:bP}{k:sn}{n:ay}{y:aN}{d:BoundsCode}(h:x=.int k n)(h0:0<=n)(f:n<=y):(qx x y d).run P w=.ok n.toNat w:=by subst h;simp only[qx,asIntOf,cg,cU,bH,h0,f,and_self,if_true]
theorem BW(i:e6 E σ a w c){z:aY}{len cap:aN}{lo hi:aA eQ}{l h:ay}(hl:(mA lo 0).val σ=ai l)(A:(mA hi len).val σ=ai h)(h0:0<=l)(H:l<=h)(B:h<=cap):
  (my z len cap (lo.map a.eval) (hi.map a.eval) aj).run P w=.ok (l.toNat,h.toNat,cap) w:=by
 have t:∀v,lo=ai v->∀d,(qx (a.eval v) h.toNat d).run P w=.ok l.toNat w:=by
  intro v j d;rcases Ao i hl with ⟨f,_⟩|⟨y,k,f,m⟩
  ·rw[f]at j;cases j
  ·rw[f]at j;cases j;exact DK m h0 (by omega)
 have r:∀v,hi=ai v->∀d,(qx (a.eval v) cap d).run P w=.ok h.toNat w:=by
  intro v j d;rcases Ao i A with ⟨f,_⟩|⟨y,k,f,m⟩
  ·rw[f]at j;cases j
  ·rw[f]at j;cases j;exact DK m (by omega) B
 have C:lo=aj->l=0:=λf=>by rcases Ao i hl with ⟨_,x⟩|⟨y,k,m,_⟩;exact x;rw[f]at m;cases m
 have s:hi=aj->h=len:=λf=>by rcases Ao i A with ⟨_,x⟩|⟨y,k,m,_⟩;exact x;rw[f]at m;cases m
 cases lo with
 |none=>
  obtain rfl:=C rfl;cases hi with
  |none=>obtain rfl:=s rfl;simp[my]
  |some v=>simp[my,r v rfl]
 |some u=>
  cases hi with
  |none=>obtain rfl:=s rfl;have:=t u rfl;simp only[dG]at this;simp[my,this]
  |some v=>simp[my,r v rfl,t u rfl]
theorem Jy{t:aN}(k:P.underlying t=ai .string)(d:e6 E σ a w c){lo hi:aA eQ}{l h:ay}{s:au}(hl:(mA lo 0).val σ=ai l)(j:(mA hi s.size).val σ=ai h)(h0:0<=l)(f:l<=h)(i:h<=(s.size:ay)):
  (pY t (.string s) (lo.map a.eval) (hi.map a.eval) aj).run P w=.ok (.string (s.extract l.toNat h.toNat)) w:=by simp only[pY,Instr.slice,cg,run_underlying k,bH,Option.isSome_none,db,if_false,BW (P:=P) d hl j h0 f i,cU]
theorem ja{t el:aN}{te:TI}(hE:dY P E)(s:P.underlying t=ai (.slice el))(m:E.ty el=ai te)(f:e6 E σ a w c){lo hi:aA eQ}{l h:ay}{A:aA Addr}{n cp:aN}(hl:(mA lo 0).val σ=ai l)(r:(mA hi n).val σ=ai h)(h0:0<=l)(j:l<=h)(k:h<=(cp:ay)):
  (pY t (.slice A n cp) (lo.map a.eval) (hi.map a.eval) aj).run P w=.ok (.slice (if cp=l.toNat then A else A.map (·.add (l.toNat*te.ks.length))) (h.toNat-l.toNat) (cp-l.toNat)) w:=by obtain⟨u,d,i,_⟩:=hE.info el te m;simp only[pY,Instr.slice,cg,run_underlying s,bH,BW (P:=P) f hl r h0 j k,sizeOf,typeInfo,program,mI,d,i,cU]
theorem tn:(dR xs lo hi)[i]? =if i<hi-lo then xs[lo+i]? else none:=by unfold dR;rw[dP];split<;>simp[dO]
theorem lS(h:hi<=xs.length):(dR xs lo hi).length=hi-lo:=by unfold dR;simp;omega
theorem Bu(h:y∈dR xs lo hi):y∈xs:=kV (ia h)
theorem aao{K:aN->Prop}{v:bP}{el:aN}{xs:Row}{te:TI}(j:E.ty el=ai te)(h:Holds E w K v (.l el xs)){lo hi:aN}(f:lo<=hi)(i:hi<=xs.length):
  ∃A n cp,v=.slice A n cp/\n=xs.length/\n<=cp\/∃A cp,v=.slice A 0 cp/\xs=[]:=by
 cases h with
 |nl=>exact⟨aj,0,0,.inr ⟨_,_,rfl,rfl⟩⟩
 |l _ _ b oo cp ti U k d=>exact⟨_,_,_,.inl ⟨rfl,rfl,d⟩⟩
theorem Du{K:aN->Prop}{A:aA Addr}{n cp el:aN}{xs:Row}{te:TI}(H:E.ty el=ai te)(h:Holds E w K (.slice A n cp) (.l el xs)){lo hi:aN}(M:lo<=hi)(t:hi<=xs.length):
  n=xs.length/\Holds E w K (.slice (if cp=lo then A else A.map (·.add (lo*te.ks.length))) (hi-lo) (cp-lo)) (.l el (dR xs lo hi)):=by
 generalize z:Value.slice A n cp=v at h;generalize k:CV.l el xs=x at h;cases h with
 |i=>cases k
 |b=>cases k
 |s=>cases k
 |nl=>
  cases k;cases z;have:hi=0:=by simpa using t
  subst this;have:lo=0:=by omega
  subst this;exact⟨rfl,.nl _ _ _⟩
 |l _ _ b oo cp ti U u N hm C hs f m=>
  cases k;cases z;refine⟨rfl,?_⟩
  obtain rfl:te=ti:=aJ (H.symm.trans u);by_cases B:hi-lo=0
  ·rw[B];have:dR xs lo hi=[]:=by unfold dR;rw[B];simp
   rw[this];exact .nl _ _ _
  ·rw[bh (by omega)];simp only[hJ,Addr.mL];have hl:=lS (xs:=xs) (lo:=lo) t;rw[<-hl];refine .l el (dR xs lo hi) b (oo+lo*te.ks.length) (cp-lo) te (λi j=>U (lo+i) j) u (by rw[hl];omega) (by omega) C (λy I=>hs y (Bu I)) (λi j y x d r=> ?_) (λi j y x d r=> ?_)
   ·rw[tn]at d;split at d
    ·have:=f (lo+i) j y x d r;rw[<-this];congr 2;rw[dc];omega
    ·cases d
   ·rw[tn]at d;split at d
    ·exact m (lo+i) j y x d r
    ·cases d
theorem Rt(hE:dY P E)(B:Ok E σ w c)(k:e6 E σ a w c)(hd:∀d,o.dst=ai d->d<a.tmps.size){x:eQ}{t:aN}{lo hi mx:aA eQ}(ho:o.op=.slice t x lo hi mx)(h:(lE E nm o).val σ=ai e)(N:e.cond=ao):gw P E σ a w c o e.ws:=by
 simp only[lE,ho]at h;cases mx with
 |some m=>simp at h
 |none=>
 obtain⟨kk,hk,h⟩:=Rd.bind_some h;obtain⟨v,h1,h⟩:=Rd.bind_some h;obtain⟨⟨b,q⟩,I,h⟩:=Rd.bind_some h;obtain⟨X,kv⟩:=iJ k h1;have H:∀{u r:bP},a.eval x=u->(pY t u (lo.map a.eval) (hi.map a.eval) aj).run P w=.ok r w->(execOp a.eval o).run P w=.ok (.value r) w:=by intro u r hu R;unfold execOp;rw[ho];exact iI (by rw[hu];exact R)
 cases kk with
 |s=>cases v with
  |s s=>have hu:=kI hE hk;obtain⟨l,hl,I⟩:=Rd.bind_some I;obtain⟨M,z,I⟩:=Rd.bind_some I;obtain⟨rfl,rfl⟩:=bU (aJ I);obtain rfl:=aJ h;have N:fU l M s.size=true:=N;simp only[fU,aM,bf]at N;obtain⟨⟨c0,c1⟩,c2⟩:=N;exact fO B k hd (s:=.v aq [.s _]) (v:=.string _) ⟨rfl,by have h5:=X.2;unfold Co at h5⊢;rw[wV];omega⟩ (λn Y=>by simp[cF,bL]at Y) (H X.1 (Jy (P:=P) hu k hl z c0 c1 c2))
  |_=>simp[JE]at I
 |l el=>
  have hu:=kg hE hk;obtain⟨te,ha,I⟩:=Rd.bind_some I;have ha:=dE ha;cases v with
  |sh e' xs=>
   obtain⟨O,C⟩:=cG I;have:=aX O;subst this;obtain⟨l,hl,C⟩:=Rd.bind_some C;obtain⟨M,z,C⟩:=Rd.bind_some C;obtain⟨rfl,rfl⟩:=bU (aJ C);obtain rfl:=aJ h;have N:fU l M xs.length=true:=N;simp only[fU,aM,bf]at N;obtain⟨⟨c0,c1⟩,c2⟩:=N;have X:Holds E w c.K (a.eval x) (.l el xs):=X;generalize hv:a.eval x=v at X;cases X with
   |nl _ A cp=>
    have h0:M=0:=by simp at c2;omega
    have l0:l=0:=by omega
    subst h0;subst l0;have R:=ja (P:=P) (te:=te) hE hu ha k (A:=A) (n:=0) (cp:=cp) hl z (by omega) (by omega) (by omega);exact fO B k hd (s:=.v aq [.sh el (dR [] (0:ay).toNat (0:ay).toNat)]) (.nl _ _ _) (λn Y=>by simp[cF,bL]at Y) (H hv R)
   |l _ _ bb oo cp ti U ht x2 x8 hK hs hb x6=>have R:=ja (P:=P) (te:=ti) hE hu ht k (A:=ai (ad bb oo)) (cp:=cp) hl z c0 c1 (by omega);have x3:=(Du (lo:=l.toNat) (hi:=M.toNat) ht (.l el xs bb oo cp ti U ht x2 x8 hK hs hb x6) (by omega) (by omega)).2;exact fO B k hd (s:=.v aq [.sh el (dR xs l.toNat M.toNat)]) x3 (λn Y=>by simp[cF,bL]at Y) (H hv R)
  |own f=>
   obtain⟨ob,hg,I⟩:=Rd.bind_some I;have hg:=dh hg
   have V:∀(xs:Row),(c.P f).n=xs.length->((c.P f).nil=ao->xs=[])->(∃ti,E.ty el=ai ti/\(c.P f).sz=ti.ks.length)->((c.P f).nil=aq->(c.P f).n<=(c.P f).cap)->
     ((mA lo 0).bind λl=>(mA hi xs.length).bind λh=>Rd.ret (fU l h xs.length,AV.vw f l.toNat h.toNat)).val σ=ai (b,q)->gw P E σ a w c o e.ws:=by
    intro xs Y h8 x0 h2 C
    obtain⟨l,hl,C⟩:=Rd.bind_some C
    obtain⟨M,z,C⟩:=Rd.bind_some C
    obtain⟨rfl,rfl⟩:=bU (aJ C)
    obtain rfl:=aJ h
    have N:fU l M xs.length=true:=N
    simp only[fU,aM,bf]at N
    obtain⟨⟨c0,c1⟩,c2⟩:=N
    obtain⟨ti,ht,h9⟩:=x0
    have X:a.eval x=j5 (c.P f):=X
    cases hq:(c.P f).nil with
    |true=>
     rw[mo hq]at X;have hx:=h8 hq;subst hx;have h0:M=0:=by simp at c2;omega
     have l0:l=0:=by omega
     subst h0;subst l0;have R:=ja (P:=P) (te:=ti) hE hu ht k (A:=aj) (n:=0) (cp:=0) hl z (by omega) (by omega) (by simp);refine fO B k hd (s:=.v aq [.vw f 0 0]) (v:=.slice aj 0 0) ⟨bT _,bA _,λ_=>rfl,λS=>by rw[hq]at S;cases S⟩ (λm hm=>by simp[cF,bL]at hm;subst hm;rw[hg];simp) (H X (by simpa using R))
    |false=>
     rw[eB hq]at X;have h2:=h2 hq;have R:=ja (P:=P) (te:=ti) hE hu ht k (A:=ai (ad (c.P f).blk (c.P f).off)) (n:=(c.P f).n) (cp:=(c.P f).cap) hl (by rw[Y];exact z) c0 c1 (by omega);refine fO B k hd (s:=.v aq [.vw f l.toNat M.toNat]) ⟨by omega,by omega,λS=>(by rw[hq]at S;cases S),λ_=> ?_⟩ (λm hm=>by simp[cF,bL]at hm;subst hm;rw[hg];simp) (H X R);by_cases Q:(c.P f).cap=l.toNat
     ·refine .inr ⟨Q.symm,(c.P f).off,by omega,?_⟩;rw[bm Q,show M.toNat-l.toNat=0 by omega,show(c.P f).cap-l.toNat=0 by omega]
     ·refine .inl ⟨by omega,?_⟩;rw[bh Q];simp only[hJ,Addr.mL,h9]
   cases ob with
   |row e' ex xs=>obtain⟨O,C⟩:=cG I;have:=aX O;subst this;obtain⟨i1,i2,ti,i3,i4,i5⟩:=kK B hg;exact V xs i1 i2 ⟨ti,i3,i4⟩ (λh=>(i5 h).1) C
   |fL e' xs=>
    obtain⟨O,C⟩:=cG I;have:=aX O;subst this;obtain⟨i1,i2,i3⟩:=mu B hg;refine V xs i1 i2 i3 (λhj=> ?_) C;obtain⟨j1,j2,_⟩:=B.obj f _ hg;rw[eB hj]at j1;by_cases hz:0<xs.length
    ·obtain⟨t3,U,L⟩:=j1.Hh hz;rw[j2];exact L.cap
    ·omega
   |_=>simp at I
  |vw f y h6=>
   obtain⟨ob,hg,I⟩:=Rd.bind_some I;have hg:=dh hg
   have V:(∃ti,E.ty el=ai ti/\(c.P f).sz=ti.ks.length)->((c.P f).nil=ao->(c.P f).n=0)->((c.P f).nil=aq->(c.P f).n<=(c.P f).cap)->
     ((mA lo 0).bind λl=>(mA hi ((h6-y:aN):ay)).bind λh=>Rd.ret (fU l h ((h6-y:aN):ay),AV.vw f (y+l.toNat) (y+h.toNat))).val σ=ai (b,q)->gw P E σ a w c o e.ws:=by
    intro x0 h8 h2 C
    obtain⟨l,hl,C⟩:=Rd.bind_some C
    obtain⟨M,z,C⟩:=Rd.bind_some C
    obtain⟨rfl,rfl⟩:=bU (aJ C)
    obtain rfl:=aJ h
    have N:fU l M ((h6-y:aN):ay)=true:=N
    simp only[fU,aM,bf]at N
    obtain⟨⟨c0,c1⟩,c2⟩:=N
    obtain⟨ti,ht,h9⟩:=x0
    obtain rfl:te=ti:=aJ (ha.symm.trans ht)
    obtain⟨v1,v2,v3,v4⟩:=X
    cases hq:(c.P f).nil with
    |true=>
     have hz:=h8 hq;have ex:=v3 hq;have x5:h6=0:=by omega
     have xb:y=0:=by omega
     subst x5;subst xb;have h0:M=0:=by simp at c2;omega
     have l0:l=0:=by omega
     subst h0;subst l0;have R:=ja (P:=P) (te:=te) hE hu ht k (A:=aj) (n:=0) (cp:=0) hl (by simpa using z) (by omega) (by omega) (by simp);refine fO B k hd (s:=.v aq [.vw f (0+(0:ay).toNat) (0+(0:ay).toNat)]) (v:=.slice aj 0 0) ⟨bT _,bA _,λ_=>rfl,λS=>by rw[hq]at S;cases S⟩ (λm hm=>by simp[cF,bL]at hm;subst hm;rw[hg];simp) (H ex (by simpa using R))
    |false=>
     have h2:=h2 hq;rcases v4 hq with ⟨u1,ex⟩|⟨u1,oo,u2,ex⟩
     ·have R:=ja (P:=P) (te:=te) hE hu ht k (A:=ai (ad (c.P f).blk ((c.P f).off+y*(c.P f).sz))) (n:=h6-y) (cp:=(c.P f).cap-y) hl z c0 c1 (by omega);refine fO B k hd (s:=.v aq [.vw f (y+l.toNat) (y+M.toNat)]) ⟨by omega,by omega,λS=>(by rw[hq]at S;cases S),λ_=> ?_⟩ (λm hm=>by simp[cF,bL]at hm;subst hm;rw[hg];simp) (H ex R);by_cases Q:(c.P f).cap-y=l.toNat
      ·refine .inr ⟨by omega,(c.P f).off+y*(c.P f).sz,?_,?_⟩
       ·have:=b5 (c.P f).sz (Nat.le_of_lt u1);omega
       ·rw[bm Q,show M.toNat-l.toNat=0 by omega,show(c.P f).cap-y-l.toNat=0 by omega]
      ·refine .inl ⟨by omega,?_⟩;rw[bh Q];simp only[hJ,Addr.mL,h9];rw[show y+M.toNat-(y+l.toNat)=M.toNat-l.toNat by omega,show(c.P f).cap-(y+l.toNat)=(c.P f).cap-y-l.toNat by omega,dc,jL]
     ·have R:=ja (P:=P) (te:=te) hE hu ht k (A:=ai (ad (c.P f).blk oo)) (n:=0) (cp:=0) hl (by rw[show h6-y=0 by omega]at z;exact z) c0 c1 (by omega);have h0:M=0:=by omega
      have l0:l=0:=by omega
      subst h0;subst l0;refine fO B k hd (s:=.v aq [.vw f (y+(0:ay).toNat) (y+(0:ay).toNat)]) (v:=.slice (ai (ad (c.P f).blk oo)) 0 0) ⟨bT _,by simp;omega,λS=>(by rw[hq]at S;cases S),λ_=>.inr ⟨by simpa using u1,oo,u2,rfl⟩⟩ (λm hm=>by simp[cF,bL]at hm;subst hm;rw[hg];simp) (H ex (by simpa using R))
   cases ob with
   |row e' ex xs=>obtain⟨O,C⟩:=cG I;have:=aX O;subst this;obtain⟨i1,i2,ti,i3,i4,i5⟩:=kK B hg;exact V ⟨ti,i3,i4⟩ (λY=>by rw[i1,i2 Y];rfl) (λh=>(i5 h).1) C
   |fL e' xs=>
    obtain⟨O,C⟩:=cG I;have:=aX O;subst this;obtain⟨i1,i2,i3⟩:=mu B hg;refine V i3 (λY=>by rw[i1,i2 Y];rfl) (λhj=> ?_) C;obtain⟨j1,j2,_⟩:=B.obj f _ hg;rw[eB hj]at j1;by_cases hz:0<xs.length
    ·obtain⟨t3,U,L⟩:=j1.Hh hz;rw[j2];exact L.cap
    ·omega
   |_=>simp at I
  |lR f i j=>
   obtain⟨ob,hg,I⟩:=Rd.bind_some I;have hg:=dh hg;cases ob with
   |row e' ex xs=>
    cases ex with
    |false=>simp at I
    |true=>
     obtain⟨t1,hw,I⟩:=Rd.bind_some I;have hw:=dE hw;split at I
     ·rename_i e2 x7;obtain⟨O,C⟩:=cG I;have:=aX O;subst this;obtain⟨⟨he,hx⟩,x1⟩:=X;obtain⟨⟨tj,x9,xd,jG⟩,x4,_⟩:=B.obj f _ hg;obtain rfl:t1=tj:=aJ (hw.symm.trans x9);obtain⟨zs,y',hy,xa,uu,_,ti,ht,xe,h9,xc,h7⟩:=qq (c:=c) x4 jG he x7;rw[eI hy xa]at C;obtain⟨l,hl,C⟩:=Rd.bind_some C;obtain⟨M,z,C⟩:=Rd.bind_some C;obtain⟨rfl,rfl⟩:=bU (aJ C);obtain rfl:=aJ h;have N:fU l M zs.length=true:=N;have z:(mA hi (zs.length:ay)).val σ=ai M:=z;simp only[fU,aM,bf]at N;obtain⟨⟨c0,c1⟩,c2⟩:=N;have Y:=h7.n;cases hq:(c.G f i j).nil with
      |true=>
       rw[mo hq]at hx;have hz:=(h7.nil hq).1;subst hz;have h0:M=0:=by simp at c2;omega
       have l0:l=0:=by omega
       subst h0;subst l0;have R:=ja (P:=P) (te:=ti) hE hu ht k (A:=aj) (n:=0) (cp:=0) hl z (by omega) (by omega) (by simp);refine fO B k hd (s:=.v aq [.iv f i j 0 0]) (v:=.slice aj 0 0) ⟨⟨he,bT _,bA _,λ_=>rfl,λS=>by rw[hq]at S;cases S⟩,x1⟩ (λm hm=>by simp[cF,bL]at hm;subst hm;rw[hg];simp) (H hx (by simpa using R))
      |false=>
       rw[eB hq]at hx;have h2:(c.G f i j).n<=(c.G f i j).cap:=by obtain⟨_,_,q,_⟩:=h7.mem hq;exact q
       have R:=ja (P:=P) (te:=ti) hE hu ht k (A:=ai (ad (c.G f i j).blk (c.G f i j).off)) (n:=(c.G f i j).n) (cp:=(c.G f i j).cap) hl (by rw[Y];exact z) c0 c1 (by omega);refine fO B k hd (s:=.v aq [.iv f i j l.toNat M.toNat]) ⟨⟨he,by omega,by omega,λS=>(by rw[hq]at S;cases S),λ_=> ?_⟩,x1⟩ (λm hm=>by simp[cF,bL]at hm;subst hm;rw[hg];simp) (H hx R);by_cases Q:(c.G f i j).cap=l.toNat
       ·refine .inr ⟨Q.symm,(c.G f i j).off,by omega,?_⟩;rw[bm Q,show M.toNat-l.toNat=0 by omega,show(c.G f i j).cap-l.toNat=0 by omega]
       ·refine .inl ⟨by omega,?_⟩;rw[bh Q];simp only[hJ,Addr.mL,h9]
     ·simp at I
   |_=>simp at I
  |nl=>
   obtain⟨l,hl,C⟩:=Rd.bind_some I;obtain⟨M,z,C⟩:=Rd.bind_some C;obtain⟨rfl,rfl⟩:=bU (aJ C);obtain rfl:=aJ h;have N:fU l M 0=true:=N;simp only[fU,aM,bf]at N;obtain⟨⟨c0,c1⟩,c2⟩:=N;have h0:M=0:=by omega
   have l0:l=0:=by omega
   subst h0;subst l0;have R:=ja (P:=P) (te:=te) hE hu ha k (A:=aj) (n:=0) (cp:=0) hl z (by omega) (by omega) (by simp);exact fO B k hd (s:=.v aq [.nl]) (v:=.slice aj 0 0) rfl (λn Y=>by simp[cF,bL]at Y) (H X (by simpa using R))
  |_=>simp[RV,RU]at I
 |_=>simp[JE]at I
end
end Go.FG
namespace Go.FG
section
variable {P:de} {E:fW} {σ:St} {a:Act} {w:cB} {c:gn} {o:gK} {nm:aN} {e:sj}
theorem Nw(k:Ok E σ w c)(m:ed E w c x v)(h:(lV E x).val σ=ai (el,xs)):∃A cp,v=.slice A xs.length cp:=by
 cases x with
 |sh u f=>
  obtain⟨rfl,rfl⟩:=bU (aJ h);have m:Holds E w c.K v (.l u f):=m;cases m with
  |nl=>exact⟨_,_,rfl⟩
  |l=>exact⟨_,_,rfl⟩
 |own n=>
  obtain⟨ob,hg,h⟩:=Rd.bind_some h;have hg:=dh hg;have m:v=j5 (c.P n):=m;have d:∀f:Row,(c.P n).n=f.length->((c.P n).nil=ao->f=[])->∃A cp,v=.slice A f.length cp:=by
   intro f y z;cases hq:(c.P n).nil with
   |true=>rw[m,mo hq,z hq];exact⟨_,_,rfl⟩
   |false=>rw[m,eB hq,y];exact⟨_,_,rfl⟩
  cases ob with
  |row u ex f=>obtain⟨rfl,rfl⟩:=bU (aJ h);obtain⟨s,t,_⟩:=kK k hg;exact d _ s t
  |fL u f=>obtain⟨rfl,rfl⟩:=bU (aJ h);obtain⟨s,t,_⟩:=mu k hg;exact d _ s t
  |_=>simp at h
 |vw n lo hi=>
  obtain⟨ob,hg,h⟩:=Rd.bind_some h;have hg:=dh hg;obtain⟨v1,v2,v3,v4⟩:=m;have d:∀f:Row,(c.P n).n=f.length->((c.P n).nil=ao->f=[])->((c.P n).nil=aq->(c.P n).n<=(c.P n).cap)->∃A cp,v=.slice A (dR f lo hi).length cp:=by
   intro f y z X;rw[lS (by omega)];cases hq:(c.P n).nil with
   |true=>have:=z hq;subst this;rw[v3 hq,show hi-lo=0 by simp at y;omega];exact⟨_,_,rfl⟩
   |false=>
    rcases v4 hq with ⟨_,h⟩|⟨u1,oo,_,h⟩
    ·rw[h];exact⟨_,_,rfl⟩
    ·have:=X hq;rw[h,show hi-lo=0 by omega];exact⟨_,_,rfl⟩
  cases ob with
  |row u ex f=>obtain⟨rfl,rfl⟩:=bU (aJ h);obtain⟨s,t,ti,_,_,i5⟩:=kK k hg;exact d _ s t (λh=>(i5 h).1)
  |fL u f=>
   obtain⟨rfl,rfl⟩:=bU (aJ h);obtain⟨s,t,_⟩:=mu k hg;refine d _ s t (λI=> ?_);obtain⟨S,j2,_⟩:=k.obj n _ hg;rw[eB I]at S;by_cases hz:0<f.length
   ·obtain⟨t3,U,L⟩:=S.Hh hz;rw[j2];exact L.cap
   ·omega
  |_=>simp at h
 |lR n i j=>
  obtain⟨ob,hg,h⟩:=Rd.bind_some h;have hg:=dh hg;cases ob with
  |row u ex f=>
   cases ex with
   |false=>simp at h
   |true=>
   obtain⟨te,M,h⟩:=Rd.bind_some h;have M:=dE M;split at h
   ·rename_i V H;obtain⟨rfl,rfl⟩:=bU (aJ h);obtain⟨⟨C,m⟩,_⟩:=m;obtain⟨⟨tj,N,h4,jG⟩,B,_⟩:=k.obj n _ hg;obtain rfl:te=tj:=aJ (M.symm.trans N);obtain⟨zs,y',hy,O,uu,_,tk,h5,Y,R,Q,r⟩:=qq (c:=c) B jG C H;rw[eI hy O];cases hq:(c.G n i j).nil with
    |true=>rw[m,mo hq,show iH (.l V zs)=zs from rfl,(r.nil hq).1];exact⟨_,_,rfl⟩
    |false=>rw[m,eB hq,r.n];exact⟨_,_,rfl⟩
   ·simp at h
  |_=>simp at h
 |_=>simp[lV]at h
theorem ml(f:o.op=.call cl)(d:cl.callee=.builtin b):
  ∃cs,(execOp a.eval o).run P w=(builtin b cl.argTypes o.type cs (cl.args.map a.eval)).run P w:=by unfold execOp;rw[f];simp only[resolve,d,cg,cU,bH,invoke];exact⟨_,rfl⟩
theorem mU(h:x.toList=[y]):x= #[y]:=by apply sb;simpa using h
theorem B9(h:x.toList=[y,z]):x= #[y,z]:=by apply sb;simpa using h
theorem ace(hE:dY P E)(j:Ok E σ w c)(K:e6 E σ a w c)(hd:∀d,o.dst=ai d->d<a.tmps.size)(S:o.op=.call cl)(R:cl.callee=.builtin .len)(h:(lE E nm o).val σ=ai e):gw P E σ a w c o e.ws:=by
 simp only[lE,S,R]at h;split at h
 ·rename_i x t Q N;obtain⟨k,hk,h⟩:=Rd.bind_some h;obtain⟨v,U,h⟩:=Rd.bind_some h;obtain⟨n,f,h⟩:=Rd.bind_some h;obtain⟨B,kv⟩:=iJ K U;have Q:=mU Q;have N:=mU N;have C:∀r,(vp #[t] o.type #[a.eval x]).run P w=.ok r w->(execOp a.eval o).run P w=.ok (.value r) w:=by intro r y;obtain⟨cs,M⟩:=ml (P:=P) (a:=a) (w:=w) S R;rw[M,Q,N];simp only[builtin,Cw,e9,uU];exact iI y
  have fin:∀m:aN,n=m->(vp #[t] o.type #[a.eval x]).run P w=.ok (goInt m) w->gw P E σ a w c o e.ws:=by intro m hm y;subst hm;exact fP j K hd h (v:=goInt m) rfl (λn I=>by simp[cF,bL]at I) (C _ y)
  cases k with
  |s=>cases v with
   |s s=>obtain rfl:=aJ f;have B:a.eval x=.string s:=B.1;exact fin s.size rfl (by rw[B];simp[vp,run_underlying (kI hE hk)])
   |_=>simp[abF]at f
  |l el=>
   have hu:=kg hE hk;have sl:∀A (m:aN) cp,a.eval x=.slice A m cp->n=m->gw P E σ a w c o e.ws:=by intro A m cp O I;exact fin m I (by rw[O];simp[vp,run_underlying hu])
   have H:∀(i:aN) (xs:Row),(lV E v).val σ=ai (i,xs)->n=xs.length->gw P E σ a w c o e.ws:=by intro i xs y I;obtain⟨A,cp,O⟩:=Nw j B y;exact sl _ _ _ O I
   cases v with
   |nl=>obtain rfl:=aJ f;exact sl aj 0 0 B rfl
   |vw m lo hi=>
    obtain⟨ob,hg,f⟩:=Rd.bind_some f;have hg:=dh hg;have r1:∃(u:aN) (z:Row),(lV E (.vw m lo hi)).val σ=ai (u,dR z lo hi)/\(c.P m).n=z.length/\n=((hi-lo:aN):ay):=by
     cases ob with
     |row u ex z=>exact⟨u,z,by simp[lV,i6,hg],(kK j hg).1,(aJ f).symm⟩
     |fL u z=>exact⟨u,z,by simp[lV,i6,hg],(mu j hg).1,(aJ f).symm⟩
     |_=>simp at f
    obtain⟨u,z,X,h6,Y⟩:=r1;refine H u _ X ?_;rw[lS (by have:=B.2.1;omega)];exact Y
   |_=>obtain⟨⟨i,xs⟩,y,V⟩:=Rd.bind_some f;obtain rfl:=aJ V;exact H i xs y rfl
  |_=>simp[abF]at f
 ·simp at h
end
end Go.FG
namespace Go.FG
section
variable {P:de} {E:fW} {σ:St} {a:Act} {w:cB} {c:gn} {o:gK} {nm:aN} {e:sj}
theorem yE(h:(Rv x).val σ=ai r):x=ai r:=by
 cases x with
 |none=>simp[Rv]at h
 |some y=>exact h
theorem acd(hE:dY P E)(j:Ok E σ w c)(f:e6 E σ a w c)(hd:∀d,o.dst=ai d->d<a.tmps.size)(u:o.op=.call cl)(s:cl.callee=.builtin .cap)(h:(lE E nm o).val σ=ai e):gw P E σ a w c o e.ws:=by
 simp only[lE,u,s]at h;split at h
 ·rename_i x t r m;obtain⟨k,hk,h⟩:=Rd.bind_some h;have r:=mU r;have m:=mU m;cases k with
  |l el=>
   obtain⟨v,z,h⟩:=Rd.bind_some h;obtain⟨y,C⟩:=iJ f z;have B:=kg hE hk;cases v with
   |nl=>refine fP j f hd h (v:=goInt 0) rfl (λn A=>by simp[cF,bL]at A) ?_;obtain⟨cs,i⟩:=ml (P:=P) (a:=a) (w:=w) u s;rw[i,r,m];simp only[builtin,Cw,e9,uU];refine iI ?_;rw[show a.eval x=.slice aj 0 0 from y];simp[Builtin.cap_,run_underlying B]
   |_=>simp at h
  |_=>simp at h
 ·simp at h
theorem Jh(f:e6 E σ a w c)(mx:aY):∀(r:aE eQ) (k:sn) (n:ay) (v:AV),(wv mx r k n).val σ=ai v->
  ∃m,v=.i k m/\((r.map a.eval).foldlM (if mx then C1 else C2) (.int k n)).run P w=.ok (.int k m) w:=by
 intro r;induction r with
 |nil=>intro k n v h;obtain rfl:=aJ h;exact⟨n,rfl,rfl⟩
 |cons x r ih=>
  intro k n v h;obtain⟨⟨j,m⟩,s,t⟩:=Rd.bind_some h;have u:=pA f s;obtain⟨q,hq,d⟩:=ih k (ea mx n m) v t;refine⟨q,hq,?_⟩
  simp only[e9,List.foldlM_cons,cg,u];cases mx with
  |true=>
   have:(C1 (.int k n) (.int j m)).run P w=.ok (.int k (ea ao n m)) w:=by simp[C1,ea]
   simp only[if_true,this,bH]at d⊢;exact d
  |false=>
   have:(C2 (.int k n) (.int j m)).run P w=.ok (.int k (ea aq n m)) w:=by simp[C2,ea]
   simp only[db,if_false,this,bH]at d⊢;exact d
theorem DF(mx:aY)(z:Ok E σ w c)(j:e6 E σ a w c)(hd:∀d,o.dst=ai d->d<a.tmps.size)(y:o.op=.call cl)(t:cl.callee=.builtin (if mx then .max else .min))(h:(lE E nm o).val σ=ai e):gw P E σ a w c o e.ws:=by
 have f:∀x r,cl.args.toList=x::r->((BF x).bind λ(k,n)=>(wv mx r k n).bind λv=>yR o v).val σ=ai e->gw P E σ a w c o e.ws:=by
  intro x r s h;obtain⟨⟨k,n⟩,B,h⟩:=Rd.bind_some h;obtain⟨v,C,h⟩:=Rd.bind_some h;have ex:=pA j B;obtain⟨m,rfl,A⟩:=Jh (P:=P) j mx r k n v C;refine fP z j hd h (v:=.int k m) rfl (λn H=>by simp[cF,bL]at H) ?_;obtain⟨cs,u⟩:=ml (P:=P) (a:=a) (w:=w) y t;have i:cl.args.map a.eval=((x::r).map a.eval).toArray:=by rw[<-s];apply sb;simp
  rw[u,i];cases mx with
  |true=>simp only[if_true,builtin];refine iI ?_;simp only[Builtin.max_,e9,ex];exact A
  |false=>simp only[db,if_false,builtin];refine iI ?_;simp only[Builtin.min_,e9,ex];exact A
 cases mx with
 |true=>
  simp only[lE,y,t,if_true]at h;split at h
  ·rename_i x r s;exact f x r s h
  ·simp at h
 |false=>
  simp only[lE,y,t,db,if_false]at h;split at h
  ·rename_i x r s;exact f x r s h
  ·simp at h
theorem RP(hs:MY op=aq)(h:aaV op k m n=ai (b,v))(i:b=ao):
  ∃u,ed E w c v u/\bL v=[]/\(binOp op t (.int k m) (.int k n)).run P w=.ok u w:=by
 subst i;cases op<;>simp only[aaV,jf,iS,true_and,reduceCtorEq]at h<;>first|(simp[MY]at hs;done)|skip
 case quo=>
  obtain⟨d,rfl⟩:=h
  have f:¬n=0:=by simpa using d
  exact⟨_,rfl,rfl,by simp[binOp,Op.intDiv,f]⟩
 case rem=>
  obtain⟨d,rfl⟩:=h
  have f:¬n=0:=by simpa using d
  exact⟨_,rfl,rfl,by simp[binOp,Op.intDiv,f]⟩
 all_goals (subst h;exact⟨_,rfl,rfl,by simp[binOp,Op.intArith,Op.intBits,Op.intCmp]⟩)
theorem RQ(hs:MY op=aq)(h:aaX op m n=ai (b,v))(f:b=ao):
  ∃u,ed E w c v u/\bL v=[]/\(binOp op t (.string m) (.string n)).run P w=.ok u w:=by
 subst f;cases op<;>simp only[aaX,jf,iS,true_and,reduceCtorEq]at h<;>first|(simp[MY]at hs;done)|skip
 case add=>
  obtain⟨d,rfl⟩:=h
  have d:=cL d
  refine⟨_,⟨rfl,by unfold Co;rw[dA];omega⟩,rfl,?_⟩
  have:¬(((m.size+n.size:aN):ay)>ak.max):=by
   have:ak.max=9223372036854775807:=by decide
   omega
  simp only[binOp,Op.stringOp,bh this,cU]
 all_goals (subst h;exact⟨_,rfl,rfl,by simp[binOp,Op.stringOp]⟩)
theorem wI(f:∀xs,u≠ .agg xs)(d:u≠ .nilIface):(eqGuard op t x y u v).run P w=.ok () w:=by unfold eqGuard;cases op<;>cases u<;>first|rfl|(exact cJ rfl (f _))|(exact cJ rfl d)|(cases v<;>rfl)
theorem wH(w:cB)(h:P.underlying t=ai .bool)(m n:aY):(binOp .eql t (.bool m) (.bool n)).run P w=.ok (.bool (m==n)) w/\(binOp .neq t (.bool m) (.bool n)).run P w=.ok (.bool !(m==n)) w:=by
 have d:(Op.equal t (.bool m) (.bool n)).run P w=.ok (m==n) w:=by show(Op.equalIn (9999+1) t (.bool m) (.bool n)).run P w=_;exact run_equalIn_bool w 9999 t m n h
 simp only[binOp,cg,d,bH,cU];exact⟨trivial,trivial⟩
theorem BQ{xs:aE AV}{ks:aE Ck}(hk:xs.map Fs=ks)(hp:plain ks=ao){d:eF bP}(hs:d.size=xs.length)(r:∀(j:aN) (a:AV),xs[j]? =ai a->∃u:bP,d[j]? =ai u/\ed E w c a u):d=(xs.map lz).toArray:=by
 apply sb;apply S6;intro j;simp only[cR,bI];cases i:xs[j]? with
 |none=>have:=List.getElem?_eq_none_iff.1 i;simp;omega
 |some a=>
  obtain⟨u,m,k⟩:=r j a i;rw[m];have hm:Fs a∈ks:=by rw[<-hk];exact cN.2 ⟨a,aU i,rfl⟩
  have h:=bz.1 hp _ hm;cases a<;>simp[Fs]at h<;>first|(have f:u=_:=k;rw[f];rfl)|(have f:u=_:=k.1;rw[f];rfl)
theorem T9(hE:dY P E){op:BinOp}{t:aN}{x y:eQ}{sx sy:SV}{z A:bP}(ex:iM E w c sx z)(B:iM E w c sy A){b:aY}{v:AV}(f:(aaW E t op sx sy).val σ=ai (b,v))(R:b=ao):
  ∃u,ed E w c v u/\bL v=[]/\(do eqGuard op t x y z A;binOp op t z A).run P w=.ok u w:=by
 have fin:∀u,ed E w c v u->bL v=[]->(do eqGuard op t x y z A;binOp op t z A).run P w=.ok u w->∃u,ed E w c v u/\bL v=[]/\(do eqGuard op t x y z A;binOp op t z A).run P w=.ok u w:=
  λu K H I=>⟨u,K,H,I⟩
 have pl:∀M S r,z=M->A=S->(∀xs,M≠ .agg xs)->M≠ .nilIface->(binOp op t M S).run P w=.ok r w->(do eqGuard op t x y z A;binOp op t z A).run P w=.ok r w:=by intro M S r h1 h2 f N U;rw[h1,h2];simp only[cg,wI (P:=P) (w:=w) (op:=op) (t:=t) (x:=x) (y:=y) (v:=S) f N,bH,U]
 unfold aaW at f;split at f
 ·rename_i p q;have ex:ed E w c p z:=ex;have B:ed E w c q A:=B;cases jG:MY op with
  |true=>
   rw[jG]at f;replace f:=yE f;cases p<;>cases q<;>first|(simp[shV]at f;done)|skip
   cases op<;>simp only[shV,jf,iS,reduceCtorEq]at f<;>(obtain⟨rfl,rfl⟩:=f)
   ·refine fin _ rfl rfl (pl _ _ _ ex B (by simp) (by simp) ?_);have:¬(_:ay)<0:=Int.not_lt.2 (cL R);simp[binOp,Op.shift,this]
   ·refine fin _ rfl rfl (pl _ _ _ ex B (by simp) (by simp) ?_);have:¬(_:ay)<0:=Int.not_lt.2 (cL R);simp[binOp,Op.shift,this]
  |false=>
   rw[jG]at f;obtain⟨k,hk,f⟩:=Rd.bind_some f;replace f:=yE f;cases p with
   |i k1 m=>
    cases q with
    |i k2 n=>
     have C:=f;simp only[IA]at C;split at C
     ·rename_i V;subst V;obtain⟨u,K,H,I⟩:=RP (P:=P) (t:=t) (E:=E) (c:=c) (w:=w) jG C R;exact fin u K H (pl _ _ _ ex B (by simp) (by simp) I)
     ·cases C
    |_=>simp[IA]at f
   |s m=>
    cases q with
    |s n=>obtain⟨u,K,H,I⟩:=RQ (P:=P) (t:=t) (E:=E) (c:=c) (w:=w) jG f R;exact fin u K H (pl _ _ _ ex.1 B.1 (by simp) (by simp) I)
    |_=>simp[IA]at f
   |b m=>
    cases q with
    |b n=>
     have j:k=.b->P.underlying t=ai .bool:=by rintro rfl;obtain⟨ti,q1,q2,q3⟩:=q0 hk;obtain⟨d,ha,_,H⟩:=hE.desc t ti q1;rcases H q2 with ⟨k,h,_⟩|⟨h,rfl⟩|⟨h,_⟩|⟨e',h,_⟩|⟨h,_⟩<;>rw[q3]at h<;>simp_all
     cases op<;>cases k<;>simp only[IA,jf,iS,reduceCtorEq]at f<;>(obtain⟨rfl,rfl⟩:=f)
     ·refine fin _ rfl rfl (pl _ _ _ ex B (by simp) (by simp) ?_);exact(wH (P:=P) w (j rfl) _ _).1
     ·refine fin _ rfl rfl (pl _ _ _ ex B (by simp) (by simp) ?_);exact(wH (P:=P) w (j rfl) _ _).2
    |_=>simp[IA]at f
   |_=>simp[IA]at f
 ·rename_i xs ys;obtain⟨ti,ht,f⟩:=Rd.bind_some f;have ht:=dE ht;obtain⟨N,f⟩:=cG f;simp only[aM]at N;obtain⟨⟨⟨⟨U,h6⟩,O⟩,Q⟩,C⟩:=N;have O:=qX O;have Q:=qX Q;replace f:=yE f;obtain⟨X,hX,sX,vX⟩:=ex;obtain⟨Y,hY,sY,vY⟩:=B;have eX:=BQ O C sX vX;have eY:=BQ Q C sY vY;cases hq:Ui xs ys with
  |none=>rw[hq]at f;cases f
  |some r=>
   rw[hq]at f;obtain⟨r1,r2⟩:=hE.eq t ti h6 ht w x y xs ys r hq O Q;cases op<;>first|(simp[isEq]at U;done)|skip
   ·obtain⟨_,rfl⟩:=bU (aJ f);exact fin _ rfl rfl (by rw[hX,hY,eX,eY];exact r1)
   ·obtain⟨_,rfl⟩:=bU (aJ f);exact fin _ rfl rfl (by rw[hX,hY,eX,eY];exact r2)
 ·simp at f
theorem Ro(hE:dY P E)(j:Ok E σ w c)(f:e6 E σ a w c)(hd:∀d,o.dst=ai d->d<a.tmps.size)(k:o.op=.binOp op t x y ty)(h:(lE E nm o).val σ=ai e)(A:e.cond=ao):gw P E σ a w c o e.ws:=by simp only[lE,k]at h;obtain⟨I,m,h⟩:=Rd.bind_some h;obtain⟨K,r,h⟩:=Rd.bind_some h;obtain⟨⟨b,v⟩,z,h⟩:=Rd.bind_some h;obtain rfl:=aJ h;obtain⟨u,H,B,C⟩:=T9 (P:=P) (x:=x) (y:=y) hE (lN f m).1 (lN f r).1 z A;refine fO j f hd (s:=.v aq [v]) H (λn i=>by simp[cF,B]at i) ?_;unfold execOp;rw[k];exact iI C
end
end Go.FG
namespace Go.FG
theorem JT(f:p.nil=aq->p.n<=p.cap)(i:p.nil=ao->p.n=0):u6 p 0 p.n (j5 p):=by
 refine⟨bA _,bT _,λh=>mo h,λh=> ?_⟩
 rw[eB h];by_cases d:p.cap=0
 ·refine .inr ⟨d.symm,p.off,Nat.le_add_right _ _,?_⟩;have:=f h;rw[d,show p.n=0 by omega]
 ·refine .inl ⟨by omega,?_⟩;simp
theorem qw(xs:Row):dR xs 0 xs.length=xs:=by unfold dR;simp
def nP(w:cB)(v:bP)(xs:Row)(sz:aN)(R:aN->aN->bP->CV->Prop):Prop:=
 ∃A cp,v=.slice A xs.length cp/\(xs≠[]->∃b o,A=ai (ad b o)/\∀(i:aN) (y:aE CV) (j:aN) (x:CV),xs[i]? =ai y->y[j]? =ai x->∃u:bP,w.cell? (ad b (o+i*sz+j))=ai u/\R i j u x)
theorem nP.imp(h:nP w v xs sz R)(t:∀(i:aN) (y:aE CV) (j:aN) (x:CV) (u:bP),xs[i]? =ai y->y[j]? =ai x->R i j u x->R' i j u x):nP w v xs sz R':=by
 obtain⟨A,cp,k,m⟩:=h;refine⟨A,cp,k,λd=> ?_⟩
 obtain⟨b,o,r,s⟩:=m d;refine⟨b,o,r,λi y j x hi f=> ?_⟩
 obtain⟨u,B,z⟩:=s i y j x hi f;exact⟨u,B,t i y j x u hi f z⟩
theorem JM(h:iO w p xs R)(I:u6 p lo hi v):nP w v (dR xs lo hi) p.sz (λi j u x=>R (lo+i) j u x):=by
 obtain⟨S,M,N,O⟩:=I;have hl:=lS (xs:=xs) (lo:=lo) (hi:=hi) (by rw[<-h.n];exact M);cases hq:p.nil with
 |true=>
  have m:=(h.nil hq).1;have h0:=h.n;rw[m]at h0;refine⟨aj,0,?_,λf=>cJ (by rw[m];unfold dR;simp) f⟩
  rw[N hq,hl];have:p.n=0:=h0;congr 1;omega
 |false=>
  obtain⟨r,s,B,z,k,t⟩:=h.mem hq;rcases O hq with ⟨K,rfl⟩|⟨K,oo,Q,rfl⟩
  ·refine⟨_,_,by rw[hl],λf=>⟨_,_,rfl,λi y j x d A=> ?_⟩⟩
   rw[tn]at d;split at d
   ·obtain⟨u,H,C⟩:=t (lo+i) y j x d A;refine⟨u,?_,C⟩
    rw[s.cell,<-H];congr 1;rw[dc];omega
   ·cases d
  ·have h0:hi-lo=0:=by omega
   refine⟨_,_,by rw[hl,h0],λf=>cJ (eO (hl.trans h0)) f⟩
theorem Bp{E:fW}{w:cB}{K:aN->Prop}{p:Pl}{e:aN}{te:TI}{xs:Row}(j:E.ty e=ai te)(h:Holds E w K (j5 p) (.l e xs))(d:p.n=xs.length)(hs:p.sz=te.ks.length){lo hi:aN}{v:bP}(k:u6 p lo hi v):Holds E w K v (.l e (dR xs lo hi)):=by
 obtain⟨t,f,u,x⟩:=k;have hl:=lS (xs:=xs) (lo:=lo) (hi:=hi) (by rw[<-d];exact f);have nil:hi-lo=0->dR xs lo hi=[]:=λh0=>eO (hl.trans h0);cases hq:p.nil with
 |true=>
  rw[mo hq]at h;have m:xs=[]:=by cases h;rfl
  subst m;have d:p.n=0:=d;rw[u hq,nil (by omega)];exact .nl _ _ _
 |false=>
  rw[eB hq]at h;rcases x hq with ⟨s,rfl⟩|⟨s,oo,y,rfl⟩
  ·have:=(Du (lo:=lo) (hi:=hi) j h t (by rw[<-d];exact f)).2;rw[bh (by omega)]at this;simpa only[hJ,Addr.mL,hs]using this
  ·by_cases r:hi-lo=0
   ·rw[nil r];exact .nl _ _ _
   ·have i:0<xs.length:=by omega
    obtain⟨t3,U,L⟩:=h.Hh i;have:=L.cap;omega
theorem yN{E:fW}{w:cB}{K:aN->Prop}{v:bP}{e:aN}{te:TI}{xs:Row}(m:E.ty e=ai te)(h:Holds E w K v (.l e xs)):nP w v xs te.ks.length (λ_ _ u x=>Holds E w K u x)/\∀y∈xs,y.map CV.kd=te.ks:=by
 cases h with
 |nl=>exact⟨⟨_,_,rfl,λh=>cJ rfl h⟩,λy s=>by cases s⟩
 |l _ _ b o cp ti U r z hm t hs d f=>obtain rfl:te=ti:=aJ (m.symm.trans r);exact⟨⟨_,_,rfl,λ_=>⟨b,o,rfl,λi y j x hi k=>⟨U i j,d i j y x hi k,f i j y x hi k⟩⟩⟩,hs⟩
theorem oV{E:fW}{w:cB}{K:aN->Prop}{u:bP}{x:CV}(h:Holds E w K u x)(hl:tE x=aq):Sc u x:=by
 cases h with
 |i=>exact⟨rfl,trivial⟩
 |b=>exact⟨rfl,trivial⟩
 |s _ h=>exact⟨rfl,h⟩
 |nl=>simp[tE]at hl
 |l=>simp[tE]at hl
theorem jK{E:fW}{w:cB}{K:aN->Prop}{u:bP}{x:CV}(hl:tE x=aq)(h:Sc u x):Holds E w K u x:=by
 obtain⟨d,f⟩:=h;subst d;cases x with
 |i k n=>exact .i k n
 |b x=>exact .b x
 |s x=>exact .s x f
 |l=>simp[tE]at hl
theorem tU{E:fW}{w:cB}{G:aN->aN->Pl}{i j:aN}{u:bP}{x:CV}(h:XC E w G i j u x)(hl:tE x=aq):Sc u x:=by
 cases x with
 |l=>simp[tE]at hl
 |i=>exact h
 |b=>exact h
 |s=>exact h
theorem tN{E:fW}{w:cB}{G:aN->aN->Pl}{i j:aN}{u:bP}{x:CV}(hl:tE x=aq)(h:Sc u x):XC E w G i j u x:=by
 cases x with
 |l=>simp[tE]at hl
 |i=>exact h
 |b=>exact h
 |s=>exact h
theorem nP.list(h:nP w v xs sz R)(hs:∀y∈xs,y.length=sz):
  ∃(A:aA Addr) (cp:aN) (k:aE bP),v=.slice A xs.length cp/\k.length=xs.length*sz/\(xs=[]\/∃b o,A=ai (ad b o)/\∀j u,k[j]? =ai u->w.cell? (ad b (o+j))=ai u)/\
   ∀(i:aN) (y:aE CV) (j:aN) (x:CV),xs[i]? =ai y->y[j]? =ai x->∃u:bP,k[i*sz+j]? =ai u/\R i j u x:=by
 obtain⟨A,cp,rfl,H⟩:=h;by_cases C:xs=[]
 ·subst C;exact⟨A,cp,[],rfl,by simp,.inl rfl,λi y j x hi d=>by simp at hi⟩
 ·obtain⟨b,o,I,B⟩:=H C;have ex:∀q,q<xs.length*sz->∃u,w.cell? (ad b (o+q))=ai u:=by
   intro q hq;have m:0<sz:=by rcases Ci sz with h|h;(subst h;simp at hq);exact h
   have hi:q/sz<xs.length:=by rw[wX m];exact hq
   have d:q%sz<xs[q/sz].length:=by rw[hs _ (bw hi)];exact Ea _ m
   obtain⟨u,z,_⟩:=B (q/sz) xs[q/sz] (q%sz) (xs[q/sz][q%sz]) (by simp[hi]) (by simp[d]);refine⟨u,?_⟩
   rw[<-z];congr 2;have:=HY q sz;rw[Gv]at this;omega
  refine⟨A,cp,(cT (xs.length*sz)).map (λq=>(w.cell? (ad b (o+q))).getD undef),rfl,by simp,.inr ⟨b,o,I,λj u d=> ?_⟩,λi y j x hi d=> ?_⟩
  ·rw[bI]at d;by_cases f:j<xs.length*sz
   ·obtain⟨M,r⟩:=ex j f;simp only[f,uT,hJ,r,xE,jf]at d;rw[r,d]
   ·rw[kD (l:=cT (xs.length*sz)) (by simpa using f)]at d;cases d
  ·obtain⟨u,z,K⟩:=B i y j x hi d;refine⟨u,?_,K⟩
   have s:=(aW.1 hi).1;have f:=(aW.1 d).1;rw[hs y (aU hi)]at f;have t:i*sz+j<xs.length*sz:=by have:(i+1)*sz<=xs.length*sz:=b5 _ s;rw[dc]at this;omega
   rw[bI,uT t,hJ];rw[show o+(i*sz+j)=o+i*sz+j by omega,z];rfl
section
variable {P:de} {E:fW} {σ:St} {a:Act} {w:cB} {c:gn} {o:gK} {nm:aN} {e:sj}
theorem wF(d:Ok E σ w c){nm e:aN}{ex:aY}{xs:Row}(h:σ (c6 nm)=.o (.row e ex xs)){lo hi:aN}{v:bP}(s:u6 (c.P nm) lo hi v):
  ∃te,E.ty e=ai te/\(∀y∈dR xs lo hi,y.map CV.kd=te.ks)/\nP w v (dR xs lo hi) te.ks.length (λi j u x=>if ex=ao then XC E w (c.G nm) (lo+i) j u x else Holds E w c.K u x):=by obtain⟨⟨ti,f,k,m⟩,r,_⟩:=d.obj nm _ h;have:=JM r s;rw[k]at this;exact⟨ti,f,λy t=>m y (Bu t),this⟩
theorem vi(f:Ok E σ w c){nm e:aN}{ex:aY}{xs:Row}(h:σ (c6 nm)=.o (.row e ex xs)):u6 (c.P nm) 0 xs.length (j5 (c.P nm)):=by obtain⟨i,j,ti,m,r,k⟩:=kK f h;rw[<-i];exact JT (λd=>(k d).1) (λd=>by rw[i,j d];rfl)
theorem Ha(d:Ok E σ w c){nm e:aN}{xs:Row}(h:σ (c6 nm)=.o (.fL e xs)):u6 (c.P nm) 0 xs.length (j5 (c.P nm)):=by
 obtain⟨i,k,ti,s,t⟩:=mu d h;rw[<-i];refine JT (λf=> ?_) (λf=>by rw[i,k f];rfl);obtain⟨j,r,_⟩:=d.obj nm _ h;rw[eB f]at j;by_cases m:0<xs.length
 ·obtain⟨t3,U,L⟩:=j.Hh m;rw[r];exact L.cap
 ·omega
theorem oU(d:Ok E σ w c){nm e:aN}{xs:Row}(h:σ (c6 nm)=.o (.fL e xs)){lo hi:aN}{v:bP}(m:u6 (c.P nm) lo hi v):Holds E w c.K v (.l e (dR xs lo hi)):=by obtain⟨f,i,ti,j,k⟩:=d.obj nm _ h;exact Bp j f i k m
theorem wk(A:Ok E σ w c){nm e s i j:aN}{xs:Row}{te:TI}(h:σ (c6 nm)=.o (.row e ao xs))(M:E.ty e=ai te)(hk:te.ks[j]? =ai (.l s))(hi:i<(c.P nm).n):
  ∃r y m,xs[i]? =ai y/\y[j]? =ai (.l s r)/\E.ty s=ai m/\plain m.ks=ao/\(c.G nm i j).sz=m.ks.length/\(∀y∈r,y.map CV.kd=m.ks)/\iO w (c.G nm i j) r (λ_ _ u x=>Sc u x)/\u6 (c.G nm i j) 0 r.length (j5 (c.G nm i j)):=by
 obtain⟨⟨O,C,K,jG⟩,t,_⟩:=A.obj nm _ h;obtain rfl:te=O:=aJ (M.symm.trans C);obtain⟨zs,y,N,I,Q,_,tk,H,B,k,f,d⟩:=qq (c:=c) t jG hi hk;refine⟨zs,y,tk,N,I,H,B,k,f,d,?_⟩
 have:=JT (p:=c.G nm i j) (λz=>by obtain⟨_,_,q,_⟩:=d.mem z;exact q) (λz=>by rw[d.n,(d.nil z).1];rfl);rwa[d.n]at this
theorem MV{E:fW}{w:cB}{K:aN->Prop}{v:bP}{e:aN}{xs:Row}(h:Holds E w K v (.l e xs)):xs.length<=maxLen:=by
 cases h with
 |nl=>exact bA _
 |l _ _ b o cp ti U f d hm=>exact cf d hm
theorem tM(h:iO w p xs R):xs.length<=maxLen:=by
 cases d:p.nil with
 |true=>rw[(h.nil d).1];exact bA _
 |false=>obtain⟨f,_,i,j,_⟩:=h.mem d;rw[<-h.n];exact cf i j
theorem HU(xs:Row)(lo hi:aN):(dR xs lo hi).length<=xs.length:=by unfold dR;simp;omega
theorem zj(d:Ok E σ w c){x:AV}{v:bP}(f:ed E w c x v){el:aN}{xs:Row}{te:TI}(h:(lV E x).val σ=ai (el,xs))(I:E.ty el=ai te)(hp:plain te.ks=ao):
  nP w v xs te.ks.length (λ_ _ u x=>Sc u x)/\(∀y∈xs,y.map CV.kd=te.ks)/\xs.length<=maxLen:=by
 have m:∀{xs:Row} {v:bP},Holds E w c.K v (.l el xs)->nP w v xs te.ks.length (λ_ _ u x=>Sc u x)/\(∀y∈xs,y.map CV.kd=te.ks)/\xs.length<=maxLen:=by intro xs v R;obtain⟨U,Q⟩:=yN I R;exact⟨U.imp λi y j x u hi C s=>oV s (gF hp (Q y (aU hi)) C),Q,MV R⟩
 have t:∀{nm:aN} {ex:aY} {xs:Row} {lo hi:aN} {v:bP},σ (c6 nm)=.o (.row el ex xs)->u6 (c.P nm) lo hi v->nP w v (dR xs lo hi) te.ks.length (λ_ _ u x=>Sc u x)/\(∀y∈dR xs lo hi,y.map CV.kd=te.ks)/\(dR xs lo hi).length<=maxLen:=by
  intro nm ex xs lo hi v hg V;obtain⟨O,M,A,N⟩:=wF d hg V;obtain rfl:te=O:=aJ (I.symm.trans M);refine⟨N.imp λi y j x u hi C s=> ?_,A,cf (HU _ _ _) (tM (d.obj nm _ hg).at_)⟩
  have hl:=gF hp (A y (aU hi)) C;split at s
  ·exact tU s hl
  ·exact oV s hl
 cases x with
 |sh r z=>obtain⟨rfl,rfl⟩:=bU (aJ h);exact m f
 |own n=>
  obtain⟨ob,hg,h⟩:=Rd.bind_some h;have hg:=dh hg;have f:v=j5 (c.P n):=f;subst f;cases ob with
  |row r ex z=>obtain⟨rfl,rfl⟩:=bU (aJ h);have:=t hg (vi d hg);rwa[qw]at this
  |fL r z=>obtain⟨rfl,rfl⟩:=bU (aJ h);have:=m (oU d hg (Ha d hg));rwa[qw]at this
  |_=>simp at h
 |vw n lo hi=>
  obtain⟨ob,hg,h⟩:=Rd.bind_some h;have hg:=dh hg;cases ob with
  |row r ex z=>obtain⟨rfl,rfl⟩:=bU (aJ h);exact t hg f
  |fL r z=>obtain⟨rfl,rfl⟩:=bU (aJ h);exact m (oU d hg f)
  |_=>simp at h
 |lR n i j=>
  obtain⟨ob,hg,h⟩:=Rd.bind_some h;have hg:=dh hg;cases ob with
  |row r ex z=>
   cases ex with
   |false=>simp at h
   |true=>
   obtain⟨t1,k,h⟩:=Rd.bind_some h;have k:=dE k;split at h
   ·rename_i e2 H;obtain⟨rfl,rfl⟩:=bU (aJ h);obtain⟨⟨B,f⟩,_⟩:=f;obtain⟨zs,y,O,M,A,N,q4,X,Y,S,q8⟩:=wk d hg k H B;obtain rfl:te=O:=aJ (I.symm.trans N);rw[eI M A];have:=JM S q8;rw[qw,X]at this;subst f;exact⟨this,Y,tM S⟩
   ·simp at h
  |_=>simp at h
 |_=>simp[lV]at h
end
end Go.FG
namespace Go.FG
def fI(E:fW)(w:cB)(c:gn)(d:eF bP)(xs:aE AV):Prop:=
 d.size=xs.length/\∀(j:aN) (a:AV),xs[j]? =ai a->∃u:bP,d[j]? =ai u/\ed E w c a u
theorem pO.cells{E:fW}{w:cB}{c:gn}{agg:aY}{xs:aE AV}{v:bP}(h:pO E w c agg xs v):fI E w c v.cells xs:=by
 unfold pO at h;split at h
 ·rename_i a;rw[Dg h.one];refine⟨rfl,λj k d=> ?_⟩
  cases j with
  |zero=>simp at d;subst d;exact⟨v,rfl,h⟩
  |succ=>simp at d
 ·obtain⟨f,rfl,hs,i⟩:=h;exact⟨hs,i⟩
 ·exact h.elim
theorem fI.one(h:fI E w c d xs):∀u∈d.toList,u.oneCell'=true:=by
 intro u r;obtain⟨j,f⟩:=bX r;have i:j<xs.length:=by rw[<-h.1];have:=(aW.1 f).1;simpa using this
 obtain⟨s,k,m⟩:=h.2 j xs[j] (by simp[i]);rw[cR,k]at f;cases f;exact m.one
theorem uH(h:j+d.length<=xs.length):(hS xs j d).length=xs.length:=by unfold hS;simp;omega
theorem oZ(h:j+d.length<=xs.length)(k:aN):(hS xs j d)[k]? =if j<=k/\k<j+d.length then d[k-j]? else xs[k]? :=by
 unfold hS;by_cases f:k<j
 ·rw[bh (by omega),ca,dj (by simp;omega),dP,bm f]
 ·by_cases i:k<j+d.length
  ·rw[bm ⟨by omega,i⟩,ca,cY (by simp;omega),dj (by simp;omega)];congr 1;simp;omega
  ·rw[bh (by omega),ca,cY (by simp;omega),cY (by simp;omega),dO];congr 1;simp;omega
theorem Bt(h:x∈hS xs j d):x∈xs\/x∈d:=by
 unfold hS at h;simp only[bc]at h;rcases h with (h|h)|h
 ·exact .inl (ia h)
 ·exact .inr h
 ·exact .inl (kV h)
theorem fI.put(h:fI E w c d xs)(f:fI E w c vs r)(hl:j+r.length<=xs.length):fI E w c (dN d j vs.toList) (hS xs j r):=by
 have m:j+vs.toList.length<=d.size:=by rw[h.1,dn,f.1];exact hl
 refine⟨by rw[eM m,uH hl];exact h.1,λk a hk=> ?_⟩
 rw[oZ hl]at hk;rw[gb m,dn,f.1];split at hk
 ·rename_i i;rw[bm i,cR];exact f.2 _ a hk
 ·rename_i i;rw[bh i];exact h.2 k a hk
theorem Qh(off:aN):∀(l:aE bP) (k:aN) (cells:eF bP),off+k+l.length<=cells.size->
  ((l.zipIdx k).foldl (λr p=>r.setIfInBounds (off+p.2) p.1) cells).size=cells.size/\
  ∀q:aN,((l.zipIdx k).foldl (λr p=>r.setIfInBounds (off+p.2) p.1) cells)[q]? =if off+k<=q/\q<off+k+l.length then l[q-(off+k)]? else cells[q]? :=by
 intro l;induction l with
 |nil=>intro k cells _;refine⟨rfl,λq=> ?_⟩;rw[bh (by simp)];rfl
 |cons v rest ih=>
  intro k cells hl;simp only[bR]at hl;obtain⟨f,i⟩:=ih (k+1) (cells.setIfInBounds (off+k) v) (by simp;omega);simp only[List.zipIdx_cons,oF];refine⟨by rw[f];simp,λq=> ?_⟩
  rw[i q];by_cases hq:q=off+k
  ·subst hq;rw[bh (by omega),bm ⟨by omega,by simp⟩,nN,bm rfl,bm (by omega)];simp
  ·by_cases d:off+(k+1)<=q/\q<off+(k+1)+rest.length
   ·rw[bm d,bm ⟨by omega,by simp;omega⟩];rw[show q-(off+k)=(q-(off+(k+1)))+1 by omega,dD]
   ·rw[bh d,bh (by simp;omega),nN,bh (λh=>hq h.symm)]
theorem Dp{off:aN}{vs cells:eF bP}(h:off+vs.size<=cells.size):(vs.zipIdx.foldl (λr (p:bP×aN)=>r.setIfInBounds (off+p.2) p.1) cells)=dN cells off vs.toList:=by
 rw[<-Array.foldl_toList,Array.toList_zipIdx];obtain⟨i,d⟩:=Qh off vs.toList 0 cells (by simpa using h);have f:off+vs.toList.length<=cells.size:=by simpa using h
 apply Array.ext_getElem?;intro q;rw[d q,gb f];simp
theorem NJ{E:fW}{w:cB}{c:gn}{k:Ck}(h:(match k with|.o=>aq|_=>ao)=ao):ed E w c (Cd k) (ie k):=by cases k<;>first|rfl|exact⟨rfl,bA _⟩|simp at h
theorem Bw(k:Ck):bL (Cd k)=[]:=by cases k<;>rfl
theorem HW(h:Jk ks=ao):fI E w c (ks.map ie).toArray (ks.map Cd):=by
 refine⟨by simp,λj a d=> ?_⟩
 rw[bI]at d;cases hk:ks[j]? with
 |none=>rw[hk]at d;cases d
 |some k=>rw[hk]at d;cases d;exact⟨ie k,by simp[hk],NJ (bz.1 h k (aU hk))⟩
section
variable {P:de} {E:fW} {σ:St} {a:Act} {w:cB} {c:gn} {o:gK} {nm:aN} {e:sj}
theorem Nq(hE:dY P E)(N:e6 E σ a w c){t:aN}{pl:aE (aN×aN)}{size:aN}(M:∀f o n,E.fo t f=ai (o,n)->pl[f]? =ai (o,n)/\o+n<=size):∀(ps:aE (aN×eQ)) (l:aE (aN×aE AV)),(FH E t ps).val σ=ai l->
  ∀(d:eF bP) (xs:aE AV),fI E w c d xs->xs.length=size->(∀a∈xs,iU σ a)->
  ∃j,o6 (λi=>pl[i]?) d (ps.map λ(i,x)=>(i,a.eval x))=ai j/\fI E w c j (K_ xs l)/\(∀a∈K_ xs l,iU σ a):=by
 intro ps;induction ps with
 |nil=>intro l h d xs u _ hk;obtain rfl:=aJ h;exact⟨d,rfl,u,hk⟩
 |cons p r ih=>
  obtain⟨f,x⟩:=p;intro l h d xs u O hk;obtain⟨v,S,h⟩:=Rd.bind_some h;obtain⟨I,C⟩:=lN N S;cases v with
  |v g y=>
   replace h:(match E.fo t f with|some (o,n)=>bif bK y.length n then(FH E t r).bind λl=>.ret ((o,y)::l)else .fail|none=>.fail:Rd (aE (aN×aE AV))).val σ=ai l:=h;cases B:E.fo t f with
   |none=>rw[B]at h;simp at h
   |some q=>
    obtain⟨off,n⟩:=q;rw[B]at h;obtain⟨s,h⟩:=cG h;have s:=aX s;obtain⟨V,H,h⟩:=Rd.bind_some h;obtain rfl:=aJ h;obtain⟨K,U⟩:=M f off n B;have A:=pO.cells I;have k:off+y.length<=xs.length:=by omega
    obtain⟨j,X,Y,q3⟩:=ih V H (dN d off (a.eval x).cells.toList) (hS xs off y) (u.put A k) (by rw[uH k];exact O)
     (λb m=>by
      rcases Bt m with m|m
      ·exact hk b m
      ·exact λn s=>C n (bM.2 ⟨b,m,s⟩))
    refine⟨j,?_,Y,q3⟩
    simp only[e9,o6,K];have Q:(a.eval x).cells.size=n:=by rw[A.1,s]
    have R:¬(off+(a.eval x).cells.size>d.size):=by rw[A.1,u.1];omega
    rw[bh (by simp[Q];rw[Q]at R;omega)];have:=Dp (off:=off) (vs:=(a.eval x).cells) (cells:=d) (by omega);rw[<-X];exact ic (λz=>o6 (λi=>pl[i]?) z _) this
  |jS=>simp at h
  |un=>simp at h
theorem Rp(hE:dY P E)(B:Ok E σ w c)(s:e6 E σ a w c)(hd:∀d,o.dst=ai d->d<a.tmps.size){t:aN}{ps:eF (aN×eQ)}(O:o.op=.build t ps)(h:(lE E nm o).val σ=ai e):gw P E σ a w c o e.ws:=by simp only[lE,O]at h;obtain⟨ti,R,h⟩:=Rd.bind_some h;obtain⟨u,h⟩:=cG h;obtain⟨l,S,h⟩:=Rd.bind_some h;have I:=dE R;simp only[aM]at u;obtain⟨r,j⟩:=u;obtain⟨h3,hi,V,_,_,Y⟩:=hE.info t ti I;obtain⟨z,K,M,_⟩:=Y r;obtain⟨d,m,U,_⟩:=hE.desc t ti I;obtain⟨fs,rfl,y⟩:=U j;obtain⟨pl,C,H⟩:=hE.pl t ti I j fs m;obtain⟨i,q1,Q,q3⟩:=Nq (size:=ti.ks.length) hE s (λf o n N=>⟨H f o n N,(y f o n N).choose_spec.2.2.2.2⟩) ps.toList l S _ _ (HW (w:=w) (c:=c) (E:=E) r) (by simp) (λb u=>by obtain⟨k,_,rfl⟩:=cN.1 u;exact tF (Bw k));refine fP B s hd h (v:=.agg i) ⟨i,rfl,Q.1,Q.2⟩ (λn A=>by obtain⟨x,X,A⟩:=bM.1 A;exact q3 x X n A) ?_;unfold execOp;rw[O];refine iI (run_build w t _ i ?_);simp only[Program.built,hi,m,K,C,M,gP,zm];exact q1
theorem Rr(hE:dY P E)(M:Ok E σ w c)(A:e6 E σ a w c)(hd:∀d,o.dst=ai d->d<a.tmps.size)(S:o.op=.field t x f)(h:(lE E nm o).val σ=ai e):gw P E σ a w c o e.ws:=by
 simp only[lE,S]at h;obtain⟨v,X,h⟩:=Rd.bind_some h;obtain⟨hv,hk⟩:=lN A X;cases v with
 |v g xs=>
  cases g with
  |true=>
   cases B:E.fo t f with
   |none=>rw[B]at h;simp at h
   |some r=>
    obtain⟨j,n⟩:=r;rw[B]at h;obtain⟨Q,h⟩:=cG h;rw[aM]at Q;cases N:xs.drop j with
    |nil=>rw[N]at h;simp at h
    |cons y ys=>
     rw[N]at h;have R:xs[j]? =ai y:=by have:=dO (xs:=xs) (i:=j) (j:=0);rw[N]at this;simpa using this.symm
     obtain⟨k,q1,q2,q3⟩:∃k:eF bP,a.eval x=.agg k/\k.size=xs.length/\∀(j:aN) (b:AV),xs[j]? =ai b->∃u:bP,k[j]? =ai u/\ed E w c b u:=hv;obtain⟨u,hu,I⟩:=q3 j y R;obtain⟨ti,ht,H⟩:=hE.fo t f j n B;obtain⟨d,z,Y,_⟩:=hE.desc t ti ht;obtain⟨fs,rfl,K⟩:=Y H;obtain⟨U,O,V,_⟩:=K f j n B;have C:=hE.fl t f Q.1 fs U z O w;refine fP M A hd h (s:=.v aq [y]) (v:=u) I (λm hm=>hk m (bM.2 ⟨y,aU R,by simpa [cF]using hm⟩)) ?_;unfold execOp;rw[S];refine iI ?_;simp only[Instr.field,cg,run_underlying z,bH,O,q1,asAgg,cU,part,C,db,if_false,V,hu]
  |false=>simp at h
 |jS=>simp at h
 |un=>simp at h
theorem Rn(hE:dY P E)(m:Ok E σ w c)(r:e6 E σ a w c)(hd:∀d,o.dst=ai d->d<a.tmps.size)(s:o.op=.alloc t)(h:(lE E nm o).val σ=ai e):gw P E σ a w c o e.ws:=by
 simp only[lE,s]at h;obtain⟨ti,x,h⟩:=Rd.bind_some h;obtain⟨f,h⟩:=cG h;obtain⟨u,y,h⟩:=Rd.bind_some h;obtain⟨z,j⟩:=kc y;obtain rfl:=aJ h;have B:=Ny (P:=P) w hE (dE x) f;refine Bo m r hd (p:=⟨aq,w.heap.size,0,0,0,0⟩) (g:=λ_ _=>⟨aq,0,0,0,0,0⟩) z j (λc' i _ _ _=> ?_) (λc' i _ b f=> ?_) (λxs C b f=> ?_) (λc' i _=> ?_) (λn A=>.inl (by simpa [cF,bL]using A)) (λb f=>heap_alloc_old w _ b f) (by simp) rfl rfl rfl (v:=.pointer (ai (ad w.heap.size 0))) (w':=w.alloc (.cells (ti.ks.map ie).toArray t)) ?_
 ·obtain⟨H,I⟩:=HW (E:=E) (w:=w.alloc (.cells (ti.ks.map ie).toArray t)) (c:=c') f;exact⟨_,by rw[i];exact nb.alloc w _ t,H,I⟩
 ·have:b=(c'.P nm).blk:=f;rw[this,i];exact bT _
 ·cases C;obtain⟨k,_,rfl⟩:=cN.1 f;exact tF (Bw k)
 ·show _=_;rw[i]
 ·unfold execOp;rw[s];exact iI B
theorem acb(r:Ok E σ w c)(s:e6 E σ a w c)(hd:∀d,o.dst=ai d->d<a.tmps.size)(B:o.op=.box t x)(h:(lE E nm o).val σ=ai e):gw P E σ a w c o e.ws:=by
 simp only[lE,B]at h;obtain⟨v,H,h⟩:=Rd.bind_some h;obtain⟨R,hk⟩:=lN s H;cases v with
 |v g xs=>
  obtain⟨u,I,h⟩:=Rd.bind_some h;obtain⟨N,z⟩:=kc I;obtain rfl:=aJ h;have O:=RR (P:=P) w t (a.eval x);have C:∀b∈xs,iU σ b:=λb f n m=>hk n (bM.2 ⟨b,f,m⟩);have k:=pO.cells R;refine Bo r s hd (p:=⟨aq,w.heap.size,0,0,0,0⟩) (g:=λ_ _=>⟨aq,0,0,0,0,0⟩) N z (λc' i _ M K=> ?_) (λc' i _ b f=> ?_) (λV S b f=> ?_) (λc' i _=> ?_) (λn m=>.inl (by simpa [cF,bL]using m)) (λb f=>heap_alloc_old w _ b f) (by simp) rfl rfl rfl (v:=.pointer (ai (ad w.heap.size 0))) (w':=w.alloc (.cells (a.eval x).cells t)) ?_
  ·refine⟨_,by rw[i];exact nb.alloc w _ t,k.1,λj y A=> ?_⟩
   obtain⟨u,Q,U⟩:=k.2 j y A;exact⟨u,Q,U.frame (λb f=>heap_alloc_old w _ b (r.lt b f)) M (λn m=>K n (.inl (C y (aU A) n m)))⟩
  ·have:b=(c'.P nm).blk:=f;rw[this,i];exact bT _
  ·cases S;exact C b f
  ·show _=_;rw[i]
  ·unfold execOp;rw[B];exact iI O
 |jS=>simp at h
 |un=>simp at h
end
end Go.FG
namespace Go.FG
def Ji(E:fW)(ks:aE Ck)(_i j:aN):Pl:=
 ⟨ao,0,0,0,0,match ks[j]? with|some (.l e)=>(match E.ty e with|some t=>t.ks.length|none=>0)|_=>0⟩
theorem ve(h:∀i j,(G i j).nil=ao):D_ p G xs:=
 ⟨λi j _ d=>(by rw[h]at d;cases d),λi j f k _ _ d=>(by rw[h]at d;cases d)⟩
theorem Mh(r:flat E ks=ao)(u:Jk ks=ao)(hk:ks[j]? =ai k):XC E w (Ji E ks) i j (ie k) (yT k):=by
 have d:=bz.1 r k (aU hk);have m:=bz.1 u k (aU hk);cases k with
 |l e=>
  replace d:(match E.ty e with|some ti=>plain ti.ks|none=>aq)=true:=d;cases f:E.ty e with
  |none=>rw[f]at d;cases d
  |some t=>
   rw[f]at d;refine⟨rfl,t,f,d,?_,λy x=>(by cases x),⟨rfl,λ_=>⟨rfl,rfl⟩,λh=>by cases h⟩⟩
   show(match ks[j]? with|some (.l e)=>(match E.ty e with|some t=>t.ks.length|none=>0)|_=>0)=_;rw[hk];simp only[f]
 |o=>cases m
 |s=>exact⟨rfl,bA _⟩
 |_=>exact⟨rfl,trivial⟩
theorem JX{E:fW}{w:cB}{K:aN->Prop}{k:Ck}(d:(match k with|.o=>aq|_=>ao)=ao):Holds E w K (ie k) (yT k):=by
 cases k with
 |o=>cases d
 |i k=>exact .i _ _
 |b=>exact .b _
 |s=>exact .s _ (bA _)
 |l e=>exact .nl _ _ _
theorem WM(d:(match k with|.o=>aq|_=>ao)=ao):(yT k).kd=k:=by cases k<;>first|rfl|cases d
theorem wU(d:Jk ks=ao)(n:aN):∀y∈aT ks n,y.map CV.kd=ks:=by
 intro y f;rw[(List.mem_replicate.1 f).2,jk];have:∀k∈ks,(CV.kd∘yT) k=k:=λk hk=>WM (bz.1 d k hk);conv=>rhs;rw[<-Mu ks]
 exact NM this
theorem tV{ks:aE Ck}{n i j:aN}{y:aE CV}{x:CV}(hi:(aT ks n)[i]? =ai y)(f:y[j]? =ai x):i<n/\∃k,ks[j]? =ai k/\x=yT k:=by
 unfold aT at hi;have d:=(aW.1 hi).1;rw[List.length_replicate]at d;rw[List.getElem?_replicate,bm d]at hi;cases hi;rw[bI]at f;cases hk:ks[j]? with
 |none=>rw[hk]at f;cases f
 |some k=>rw[hk]at f;cases f;exact⟨d,k,rfl,rfl⟩
theorem lr{ks:aE Ck}{n i j:aN}{k:Ck}(hi:i<n)(hk:ks[j]? =ai k):(madeCells (ks.map ie).toArray (n*ks.length))[i*ks.length+j]? =ai (ie k):=by
 have f:=(aW.1 hk).1;have d:i*ks.length+j<n*ks.length:=by have:(i+1)*ks.length<=n*ks.length:=b5 _ hi;rw[dc]at this;omega
 have hm:(i*ks.length+j)%ks.length=j:=by rw[Gv,Nat.mul_add_mod];exact Nat.mod_eq_of_lt f
 unfold madeCells;rw[Mm,Array.getElem?_range,bm d,hJ];congr 1;simp only[AQ,bJ,hm];rw[getElem!_def,gP,bI,hk];rfl
theorem yx{P:de}{E:fW}{σ:St}(hE:dY P E){t:aN}{k:sn}(h:(py E t).val σ=ai (.i k)):P.underlying t=ai (.int k):=by obtain⟨ti,f,j,m⟩:=q0 h;obtain⟨d,hd,_,r⟩:=hE.desc t ti f;rcases r j with ⟨k,h,rfl⟩|⟨h,_⟩|⟨h,_⟩|⟨s,h,_⟩|⟨h,_⟩<;>rw[m]at h<;>simp_all
theorem KW{P:de}{E:fW}(hE:dY P E){e:aN}{te:TI}(j:E.ty e=ai te)(h:(u8s te.ks&& !te.agg)=ao):te.ks=[.i .u8]/\P.underlying e=ai (.int .u8):=by
 simp only[aM,dt]at h;have hk:te.ks=[.i .u8]:=by
  have:=h.1;unfold u8s at this;split at this
  ·assumption
  ·cases this
 obtain⟨d,hd,_,f⟩:=hE.desc e te j;refine⟨hk,?_⟩
 rcases f h.2 with ⟨k,h,rfl⟩|⟨h,_⟩|⟨h,_⟩|⟨m,h,_⟩|⟨h,_⟩<;>rw[hk]at h<;>simp_all
section
variable {P:de} {E:fW} {σ:St} {a:Act} {w:cB} {c:gn} {o:gK} {nm:aN} {e:sj}
theorem Nz(hE:dY P E){src dst el:aN}{te:TI}(hs:P.underlying src=ai (.slice el))(hd:P.underlying dst=ai .string)(m:P.underlying el=ai (.int .u8))(hk:te.ks=[.i .u8]){v:bP}{xs:Row}
  (h:nP w v xs te.ks.length (λ_ _ u x=>Sc u x)) (jG:∀y∈xs,y.map CV.kd=te.ks):(convert src dst v).run P w=.ok (.string (bytesOf xs)) w:=by
 obtain⟨A,cp,rfl,B⟩:=h;by_cases t:xs=[]
 ·subst t;rw[jz];have z:bytesOf []=Gf:=rfl;rw[z];cases A with
  |none=>exact run_convert_bytes_nil w src el hs m 0 cp dst hd
  |some j=>rw[run_convert_bytes_string w src dst el _ 0 cp hs m hd];exact run_bytesToString w j 0 cp [] rfl
 ·obtain⟨b,oo,rfl,C⟩:=B t;have:=run_convert_bytes_arg w src el hs m b oo xs.length cp (xs.map λy=>bN (y.getD 0 (.b aq))) (by simp) (λi hi=>by
   have d:=jG xs[i] (bw hi);rw[hk]at d;cases hq:xs[i]with
   |nil=>rw[hq]at d;cases d
   |cons x r=>
    rw[hq]at d;simp only[e9,Xl,List.map_eq_nil_iff]at d;obtain⟨f,rfl⟩:=d;obtain⟨u,s,H⟩:=C i xs[i] 0 x (by simp[hi]) (by rw[hq];rfl);rw[hk]at s;simp only[bR,jz,bV,Nat.mul_one,zQ]at s;rw[s,H.1];cases x with
    |i k n=>cases f;simp[ND,dZ,hi,hq,bN]
    |_=>cases f) dst hd
  rw[this];unfold strOfNums bytesOf;rw[jk];rfl
theorem ir(xs:Row):(bytesOf xs).size=xs.length:=by unfold bytesOf;simp[bC]
theorem lD(s:au):(qp s).length=s.size:=by unfold qp;simp
theorem FP{s:au}{i j:aN}{y:aE CV}{x:CV}(hi:(qp s)[i]? =ai y)(f:y[j]? =ai x):j=0/\∃b,s.data[i]? =ai b/\x=.i .u8 (b.toNat:ay):=by
 unfold qp at hi;rw[bI,cR]at hi;cases d:s.data[i]? with
 |none=>rw[d]at hi;cases hi
 |some b=>
  rw[d]at hi;cases hi;cases j with
  |zero=>cases f;exact⟨rfl,b,rfl,rfl⟩
  |succ j=>simp at f
theorem HB(s:au):∀y∈qp s,y.map CV.kd=[.i .u8]:=by intro y d;obtain⟨b,_,rfl⟩:=cN.1 d;rfl
theorem Jp(hE:dY P E)(m:Ok E σ w c)(t:e6 E σ a w c)(hd:∀d,o.dst=ai d->d<a.tmps.size){src dst:aN}{x:eQ}(Q:o.op=.convert src dst x)(h:(lE E nm o).val σ=ai e)(V:e.cond=ao):gw P E σ a w c o e.ws:=by
 simp only[lE,Q]at h;obtain⟨ks,I,h⟩:=Rd.bind_some h;obtain⟨kd,O,h⟩:=Rd.bind_some h;obtain⟨v,R,h⟩:=Rd.bind_some h;obtain⟨z,kv⟩:=iJ t R;have f:∀{u r:bP} {w':cB},a.eval x=u->(convert src dst u).run P w=.ok r w'->(execOp a.eval o).run P w=.ok (.value r) w':=by intro u r w' Y X;unfold execOp;rw[Q];exact iI (by rw[Y];exact X)
 cases kd with
 |i k=>
  cases ks with
  |i k0=>
   cases v with
   |i k1 n=>refine fP m t hd h (v:=.int k (k.wrap n)) rfl (λn A=>by simp[cF,bL]at A) (f z ?_);simp[convert,run_underlying (yx hE I),run_underlying (yx hE O),Conv.intToInt]
   |_=>simp at h
  |_=>simp at h
 |s=>
  have j:=kI hE O;cases ks with
  |s=>
   cases v with
   |s s=>refine fP m t hd h (v:=.string s) ⟨rfl,z.2⟩ (λn A=>by simp[cF,bL]at A) (f z.1 ?_);simp[convert,run_underlying (kI hE I),run_underlying j]
   |_=>simp at h
  |l el=>
   have y:=kg hE I;have H:(∀e,v=e->((lV E e).bind λ(e,xs)=>(rD E e).bind λte=>bif bK e el&&u8s te.ks&& !te.agg then JQ o (ah (xs.length<=4611686018427387904)) (.s (bytesOf xs))else .fail).val σ=ai ‹sj›)->gw P E σ a w c o (‹sj›).ws:=by
    intro h;obtain⟨⟨e1,xs⟩,K,h⟩:=Rd.bind_some (h v rfl);obtain⟨te,C,h⟩:=Rd.bind_some h;have C:=dE C;obtain⟨B,S⟩:=cG h;rw[nc,aM]at B;have:=aX B.1;subst this;obtain⟨M,N⟩:=KW hE C B.2;have hp:plain te.ks=true:=by rw[M];rfl
    obtain⟨r1,r2,r3⟩:=zj m z K C hp;exact DP m t hd S V (v:=.string (bytesOf xs)) (λU=>⟨rfl,by unfold Co;rw[ir];exact cL U⟩) (tF rfl) (λ_=>f rfl (Nz hE y j N M r1 r2))
   cases v with
   |nl=>obtain⟨te,K,h⟩:=Rd.bind_some h;obtain⟨B,h⟩:=cG h;obtain⟨M,N⟩:=KW hE (dE K) B;exact fP m t hd h (v:=.string Gf) ⟨rfl,bA _⟩ (λn A=>by simp[cF,bL]at A) (f z (run_convert_bytes_nil w src el y N 0 0 dst j))
   |_=>exact H (λ_ hv=>by cases hv;exact h)
  |_=>simp at h
 |_=>simp at h
theorem FE(hE:dY P E)(U:Ok E σ w c)(r:e6 E σ a w c)(hd:∀d,o.dst=ai d->d<a.tmps.size){t:aN}{x y:eQ}(ho:o.op=.makeSlice t x y)(h:(lE E nm o).val σ=ai e)(O:e.cond=ao):gw P E σ a w c o e.ws:=by
 simp only[lE,ho]at h;obtain⟨⟨k1,n⟩,h1,h⟩:=Rd.bind_some h;obtain⟨⟨k2,m⟩,h2,h⟩:=Rd.bind_some h;obtain⟨ti,K,h⟩:=Rd.bind_some h;have ex:=pA r h1;have ey:=pA r h2;have K:=dE K;split at h
 ·rename_i el M S;obtain⟨te,C,h⟩:=Rd.bind_some h;have C:=dE C;obtain⟨h5,h⟩:=cG h;obtain⟨u,h6,h⟩:=Rd.bind_some h;obtain⟨hf,B⟩:=kc h6;obtain rfl:=aJ h;generalize (bif plain te.ks then nm else nm+999)=nm at hf B O⊢;simp only[aM,bf,b8]at O h5;obtain⟨⟨c0,rfl⟩,c1,c2⟩:=O;obtain⟨f,Q⟩:=h5;have hu:=oQ hE K M S;obtain⟨h7,hi,V,N,h8,hz⟩:=hE.info el te C;obtain⟨z,X,Y,_⟩:=hz f;have hr:=run_make (P:=P) w t el h7 z hu hi X k1 k2 n n c0 (Int.le_refl _) (by
   have e1:((n.toNat*te.bytes:aN):ay)<=140737488355328:=(by generalize n.toNat*te.bytes=q at c1⊢;omega)
   rw[N,Int.mul_comm];rw[TN,Int.toNat_of_nonneg c0]at e1;omega) (by omega)
  rw[Y,V]at hr;refine Bo U r hd (p:=⟨aq,w.heap.size,0,n.toNat,n.toNat,te.ks.length⟩) (g:=Ji E te.ks) hf B (λc' s H _ _=> ?_) (λc' s H b I=> ?_) (λxs hx b I=>by cases hx) (λc' s _=> ?_) (λn A=>.inl (by simpa [cF,bL]using A)) (λb I=>heap_alloc_old w _ b I) (by simp) rfl rfl rfl (v:=.slice (ai ⟨w.heap.size,0,aj⟩) n.toNat n.toNat) (w':=w.alloc (.cells (madeCells (te.ks.map ie).toArray (n.toNat*te.ks.length)) el)) ?_
  ·refine⟨⟨te,C,by rw[s],wU f _⟩,?_,λ_=>ve (λi j=>(by rw[H];try rfl))⟩
   rw[s,H];refine⟨by simp[aT],λA=>(by cases A),λ_=>⟨_,nb.alloc w _ el,bT _,(by show n.toNat<=2^63-1;omega),by rw[size_madeCells];simp,λi y j x hi hj=> ?_⟩⟩
   obtain⟨R,k,hk,rfl⟩:=tV hi hj;refine⟨ie k,?_,by rw[bm rfl];exact Mh Q f hk⟩
   rw[bV];exact lr R hk
  ·rcases I with ⟨_,rfl⟩|⟨_,i,j,_,A,_⟩
   ·rw[s];exact bT _
   ·rw[H]at A;cases A
  ·show _=j5 _;rw[s];rfl
  ·unfold execOp;rw[ho];exact iI (by rw[ex,ey];exact hr)
 ·simp at h
end
end Go.FG
namespace Go.FG
theorem jA:(dV xs i j cs).length=xs.length:=by unfold dV;simp
theorem wL(k:xs[i]? =ai y)(d:aN):(dV xs i j cs)[d]? =if d=i then ai (hS y j cs)else xs[d]? :=by
 have f:=(aW.1 k).1;have hd:xs.getD i []=y:=by rw[dK,k];rfl
 unfold dV;rw[NK,hd];by_cases h:d=i
 ·subst h;simp[f]
 ·rw[bh h,bh (λe=>h e.symm)]
theorem nb.uniq(f:nb w b v1)(d:nb w b v2):v1=v2:=by obtain⟨t,fr,f,_⟩:=f;obtain⟨i,h,d,_⟩:=d;rw[f]at d;cases d;rfl
theorem iO.pos(h:iO w p xs R)(hi:i<p.n):p.nil=aq/\∃d,nb w p.blk d:=by
 have f:p.nil=false:=by
  cases k:p.nil with
  |false=>rfl
  |true=>have:=(h.nil k).1;subst this;have:=h.n;simp at this;omega
 obtain⟨d,j,_⟩:=h.mem f;exact⟨f,d,j⟩
theorem iO.agR(h:iO w p xs R)(O:nb w p.blk m)(hs:∀y∈xs,y.length=p.sz)(hi:i<p.n)(hj:j+cs.length<=p.sz)(hl:vs.length=cs.length)
  (C:∀(q:aN) (x:CV),cs[q]? =ai x->∃u:bP,vs[q]? =ai u/\R' i (j+q) u x)
  (t:∀(N:aN) (y:aE CV) (K:aN) (x:CV) (u:bP),xs[N]? =ai y->y[K]? =ai x->(N≠i\/¬(j<=K/\K<j+cs.length))->R N K u x->R' N K u x):
  p.off+i*p.sz+j+vs.length<=m.size/\iO (w.setRow p.blk (dN m (p.off+i*p.sz+j) vs)) p (dV xs i j cs) R':=by
 have s:p.nil=false:=by
  cases M:p.nil with
  |false=>rfl
  |true=>have:=(h.nil M).1;subst this;have:=h.n;simp at this;omega
 obtain⟨h2,hb,V,Q,A,hc⟩:=h.mem s;obtain rfl:=O.uniq hb;have B:i<xs.length:=by rw[<-h.n];exact hi
 have X:xs[i]? =ai xs[i]:=by simp[B]
 have h4:=hs xs[i] (bw B);have h1:(i+1)*p.sz<=p.cap*p.sz:=b5 _ (by omega);rw[dc]at h1;have d:p.off+i*p.sz+j+vs.length<=m.size:=by omega
 refine⟨d,⟨by rw[jA];exact h.n,λM=>(by rw[s]at M;cases M),λ_=> ?_⟩⟩
 refine⟨_,hb.setRow (eM d),V,Q,by rw[eM d];exact A,λY y z x k f=> ?_⟩
 rw[wL X]at k;rw[gb d];by_cases r:Y=i
 ·subst r;rw[bm rfl]at k;cases k;rw[oZ (by omega)]at f;by_cases hq:j<=z/\z<j+cs.length
  ·rw[bm hq]at f;rw[bm (by omega)];obtain⟨u,I,H⟩:=C (z-j) x f;refine⟨u,?_,?_⟩
   ·rw[<-I];congr 1;omega
   ·rwa[show j+(z-j)=z by omega]at H
  ·rw[bh hq]at f;obtain⟨u,I,H⟩:=hc _ _ _ _ X f;exact⟨u,by rw[bh (by omega)];exact I,t _ _ _ _ _ X f (.inr hq) H⟩
 ·rw[bh r]at k;obtain⟨u,I,H⟩:=hc _ _ _ _ k f;refine⟨u,?_,t _ _ _ _ _ k f (.inl r) H⟩
  have h3:z<p.sz:=by rw[<-hs y (aU k)];exact(aW.1 f).1
  rw[bh ?_];exact I;rcases NP r with U|S
  ·have:(Y+1)*p.sz<=i*p.sz:=b5 _ U;rw[dc]at this;omega
  ·have:(i+1)*p.sz<=Y*p.sz:=b5 _ S;rw[dc]at this;omega
theorem iO.put(h:iO w p xs R)(m:nb w p.blk d)(hs:∀y∈xs,y.length=p.sz)(hi:i<p.n)(t:j+cs.length<=p.sz)(hl:vs.length=cs.length)
  (f:∀(q:aN) (x:CV),cs[q]? =ai x->∃u:bP,vs[q]? =ai u/\R' i (j+q) u x)
  (k:∀(i:aN) (y:aE CV) (j:aN) (x:CV) (u:bP),xs[i]? =ai y->y[j]? =ai x->R i j u x->R' i j u x):
  p.off+i*p.sz+j+vs.length<=d.size/\iO (w.setRow p.blk (dN d (p.off+i*p.sz+j) vs)) p (dV xs i j cs) R':=
 h.agR m hs hi t hl f (λA y B x u r s _ z=>k A y B x u r s z)
theorem kH(h:∀y∈xs,y.map CV.kd=ks)(i j:aN):fT xs i j↔i<xs.length/\∃e,ks[j]? =ai (.l e):=by
 constructor
 ·rintro ⟨y,x,f,d,hl⟩;refine⟨(aW.1 f).1,?_⟩
  cases x with
  |l e m=>exact⟨e,by rw[<-h y (aU f),bI,d];rfl⟩
  |i=>simp[tE]at hl
  |b=>simp[tE]at hl
  |s=>simp[tE]at hl
 ·rintro ⟨hi,e,hk⟩;have f:xs[i]? =ai xs[i]:=by simp[hi]
  have k:=h xs[i] (bw hi);rw[<-k,bI]at hk;cases d:xs[i][j]? with
  |none=>rw[d]at hk;cases hk
  |some x=>
   rw[d]at hk;cases x with
   |l r m=>exact⟨_,_,f,d,rfl⟩
   |i=>cases hk
   |b=>cases hk
   |s=>cases hk
theorem M3(d:y.map CV.kd=ks)(f:cs.map CV.kd=(ks.drop j).take cs.length)(i:j+cs.length<=ks.length):(hS y j cs).map CV.kd=ks:=by
 have hl:y.length=ks.length:=by rw[<-d];simp
 apply S6;intro q;rw[bI,oZ (by omega)];split
 ·rename_i h;have:(cs.map CV.kd)[q-j]? =((ks.drop j).take cs.length)[q-j]? :=by rw[f]
  rw[bI]at this;rw[this,dP,bm (by omega),dO];congr 1;omega
 ·rw[<-d,bI]
theorem tP(h:∀y∈xs,y.map CV.kd=ks)(d:cs.map CV.kd=(ks.drop j).take cs.length)(f:j+cs.length<=ks.length)(hi:i<xs.length):∀y∈dV xs i j cs,y.map CV.kd=ks:=by
 intro y k;obtain⟨q,hq⟩:=bX k;rw[wL (y:=xs[i]) (by simp[hi])]at hq;split at hq
 ·cases hq;exact M3 (h _ (bw hi)) d f
 ·exact h y (aU hq)
theorem ny{E:fW}{w:cB}{K:aN->Prop}{p:Pl}{xs:Row}{el:aN}{te:TI}(H:E.ty el=ai te)(hs:p.sz=te.ks.length)(jG:∀y∈xs,y.map CV.kd=te.ks)
  (h:iO w p xs (λ_ _ u x=>Holds E w K u x)) (z:p.nil=aq->K p.blk):Holds E w K (j5 p) (.l el xs):=by
 cases hq:p.nil with
 |true=>rw[mo hq,(h.nil hq).1];exact .nl _ _ _
 |false=>
  rw[eB hq,h.n];obtain⟨m,A,s,r,_,B⟩:=h.mem hq;have k:=λi y j x (d:xs[i]? =ai y) (f:y[j]? =ai x)=>B i y j x d f;refine .l el xs p.blk p.off p.cap te (λi j=>(m[p.off+i*p.sz+j]?).getD undef) H (by rw[<-h.n];exact s) r (z hq) jG (λi j y x d f=> ?_) (λi j y x d f=> ?_)
  ·obtain⟨u,t,_⟩:=k i y j x d f;rw[A.cell,<-hs,t];rfl
  ·obtain⟨u,t,C⟩:=k i y j x d f;simp only[t,xE];exact C
theorem tr{E:fW}{w:cB}{K:aN->Prop}{G:aN->aN->Pl}{i j:aN}{u:bP}{x:CV}(h:XC E w G i j u x)(f:tE x=ao->(G i j).nil=aq->K (G i j).blk):Holds E w K u x:=by
 cases x with
 |l e z=>obtain⟨rfl,t,r,hp,hs,jG,d⟩:=h;exact ny r hs jG (d.frame (λ_=>rfl) (λi j y x u hi k m=>jK (gF hp (jG y (aU hi)) k) m)) (f rfl)
 |i=>exact jK rfl h
 |b=>exact jK rfl h
 |s=>exact jK rfl h
section
variable {P:de} {E:fW} {σ:St} {a:Act} {w:cB} {c:gn} {o:gK} {nm:aN} {e:sj}
theorem yq(hp:plain [k]=ao)(h:(G0 ex k x).val σ=ai (d,ws))(f:ed E w c x u):d.kd=k/\Sc u d/\tE d=aq/\ws=[]:=by
 cases k with
 |i k=>
  cases x with
  |i k' n=>
   replace h:(if k=k' then Rd.ret (CV.i k n,[])else .fail:Rd (CV×aE (aN×eW))).val σ=ai (d,ws):=h;split at h
   ·rename_i hk;subst hk;obtain⟨rfl,rfl⟩:=bU (aJ h);exact⟨rfl,⟨f,trivial⟩,rfl,rfl⟩
   ·simp at h
  |_=>simp[G0]at h
 |b=>
  cases x with
  |b n=>obtain⟨rfl,rfl⟩:=bU (aJ h);exact⟨rfl,⟨f,trivial⟩,rfl,rfl⟩
  |_=>simp[G0]at h
 |s=>
  cases x with
  |s n=>obtain⟨rfl,rfl⟩:=bU (aJ h);exact⟨rfl,f,rfl,rfl⟩
  |_=>simp[G0]at h
 |l=>simp[plain]at hp
 |o=>simp[plain]at hp
theorem Be:∀{ks:aE Ck} {xs:aE AV} {cs:aE CV} {ws:aE (aN×eW)} (hp:plain ks=ao) (h:(yr ex ks xs).val σ=ai (cs,ws)),cs.map CV.kd=ks/\cs.length=xs.length/\ws=[]/\
  ∀(d:eF bP),fI E w c d xs->∀(q:aN) (x:CV),cs[q]? =ai x->d[q]? =ai (ND x)/\tE x=aq/\okC x:=by
 intro ks;induction ks with
 |nil=>
  intro xs cs ws hp h;cases xs with
  |nil=>obtain⟨rfl,rfl⟩:=bU (aJ h);exact⟨rfl,rfl,rfl,λ_ _ q x hq=>by simp at hq⟩
  |cons=>simp[yr]at h
 |cons k ks ih=>
  intro xs cs ws hp h;cases xs with
  |nil=>simp[yr]at h
  |cons x xs=>
   obtain⟨⟨A,w1⟩,f,h⟩:=Rd.bind_some h;obtain⟨⟨cr,S⟩,C,h⟩:=Rd.bind_some h;obtain⟨rfl,rfl⟩:=bU (aJ h);simp only[plain,jc,aM]at hp;have m:plain [k]=true:=by simp[plain,hp.1]
   have s:plain ks=true:=hp.2;obtain⟨N,O,Q,R⟩:=ih s C;have B:=λu (i:ed E w c x u)=>yq m f i;have r:A.kd=k/\w1=[]:=by
    cases k<;>cases x<;>simp[G0,plain]at f m<;>first
     |(obtain⟨rfl,rfl⟩:=f;exact⟨rfl,rfl⟩)
     |(split at f<;>simp at f;rename_i hk;subst hk;obtain⟨rfl,rfl⟩:=f;exact⟨rfl,rfl⟩)
   refine⟨by simp[r.1,N],by simp[O],by rw[r.2,Q];rfl,λd t q y hq=> ?_⟩
   cases q with
   |zero=>cases hq;obtain⟨u,i,H⟩:=t.2 0 x rfl;obtain⟨_,⟨rfl,M⟩,hl,_⟩:=B u H;exact⟨i,hl,M⟩
   |succ q=>
    have z:fI E w c (d.extract 1 d.size) xs:=by
     refine⟨by simp;have:=t.1;simp at this;omega,λj b K=> ?_⟩
     obtain⟨u,i,I⟩:=t.2 (j+1) b K;refine⟨u,?_,I⟩
     have:=(dr.1 i).1;rw[dS,bm (by omega),iL];exact i
    obtain⟨r1,r2⟩:=R _ z q y hq;refine⟨?_,r2⟩
    rw[dS]at r1;split at r1
    ·rw[iL];exact r1
    ·cases r1
theorem WJ(d:s.run P w=.ok () w'):(do s;pure Next.skip:Sem Next).run P w=.ok .skip w':=by simp only[cg,d,bH,cU]
theorem DD:∀{d:aE AV} {f q j:aN},yD f d=ai (q,j)->f<=q/\d[q-f]? =ai (.own j)/\∀(k m:aN),d[k]? =ai (.own m)->k=q-f:=by
 have i:∀{d:aE AV},Hn d=ao->∀(k m:aN),d[k]? ≠ai (.own m):=by
  intro d;induction d with
  |nil=>intro h k m h;simp at h
  |cons y d ih=>
   intro h k m hk;cases y with
   |own n=>cases h
   |_=>
    cases k with
    |zero=>cases hk
    |succ k=>exact ih (by simpa [Hn]using h) k m hk
 intro d;induction d with
 |nil=>intro f q j h;cases h
 |cons y d ih=>
  intro f q j h;have step:yD (f+1) d=ai (q,j)->(∀m,y≠ .own m)->f<=q/\(y::d)[q-f]? =ai (.own j)/\∀(k m:aN),(y::d)[k]? =ai (.own m)->k=q-f:=by
   intro h u;obtain⟨r,s,t⟩:=ih h;have e:q-f=(q-(f+1))+1:=by omega
   refine⟨by omega,by rw[e,dD];exact s,λk m hk=> ?_⟩
   cases k with
   |zero=>cases hk;exact cJ rfl (u m)
   |succ k=>have:=t k m hk;omega
  cases y with
  |own n=>
   unfold yD at h;cases r:Hn d with
   |false=>rw[r]at h;cases h
   |true=>
    rw[r]at h;cases h;refine⟨bT _,by rw[pf];rfl,λk m hk=> ?_⟩
    cases k with
    |zero=>omega
    |succ k=>exact cJ hk (i r k m)
  |_=>exact step (by simpa [yD]using h) (λm h=>by cases h)
theorem Ud:∀{ks:aE Ck} {d:aE AV} {cs:aE CV},CI f j zs ks d=ai cs->cs.map CV.kd=ks/\cs.length=d.length/\
  ∀(q:aN) (x:CV),cs[q]? =ai x->∃y,d[q]? =ai y/\((tE x=aq/\∀u,ed E w c y u->Sc u x)\/(x=.l f zs/\y=.own j)):=by
 intro ks;induction ks with
 |nil=>
  intro d cs h;cases d with
  |nil=>cases h;exact⟨rfl,rfl,λq x h=>by simp at h⟩
  |cons=>cases h
 |cons k ks ih=>
  intro d cs h
  have go:∀{y:AV} {r:aE AV} {x:CV},d=y::r->(CI f j zs ks r).map (x:: ·)=ai cs->x.kd=k->((tE x=aq/\∀u,ed E w c y u->Sc u x)\/(x=.l f zs/\y=.own j))->
    cs.map CV.kd=k::ks/\cs.length=d.length/\∀(q:aN) (x:CV),cs[q]? =ai x->∃y,d[q]? =ai y/\((tE x=aq/\∀u,ed E w c y u->Sc u x)\/(x=.l f zs/\y=.own j)):=by
   intro y r x C hm hk B
   subst C
   cases A:CI f j zs ks r with
   |none=>rw[A]at hm;cases hm
   |some cr=>
    rw[A]at hm;cases hm;obtain⟨H,I,K⟩:=ih A;refine⟨by simp[hk,H],by simp[I],λq z hq=> ?_⟩
    cases q with
    |zero=>cases hq;exact⟨y,rfl,B⟩
    |succ q=>exact K q z hq
  cases d with
  |nil=>cases k<;>cases h
  |cons y r=>
   cases k with
   |i k=>
    cases y with
    |i k' n=>
     unfold CI at h;split at h
     ·rename_i hk;subst hk;exact go rfl h rfl (.inl ⟨rfl,λu t=>⟨t,trivial⟩⟩)
     ·cases h
    |_=>cases h
   |b=>
    cases y with
    |b n=>exact go rfl h rfl (.inl ⟨rfl,λu t=>⟨t,trivial⟩⟩)
    |_=>cases h
   |s=>
    cases y with
    |s n=>exact go rfl h rfl (.inl ⟨rfl,λu t=>t⟩)
    |_=>cases h
   |l e=>
    cases y with
    |own n=>
     unfold CI at h;cases m:(bK e f&&bK n j)with
     |false=>rw[m]at h;cases h
     |true=>rw[m,aw]at h;simp only[aM]at m;have:=aX m.1;subst this;have:=aX m.2;subst this;exact go rfl h rfl (.inr ⟨rfl,rfl⟩)
    |_=>cases h
   |o=>cases y<;>cases h
theorem MP(z:Ok E σ w c)(xy:e6 E σ a w c)(hd:∀d,o.dst=ai d->d<a.tmps.size)(hF:vr n=ao)(hi:i<(c.P n).n)(h:(FW E n i j ys).val σ=ai ws)(xg:fI E w c X ys)(y5:0<ys.length)
  (xb:∀(x3:eF bP),nb w (c.P n).blk x3->(c.P n).off+i*(c.P n).sz+j+X.size<=x3.size->(execOp a.eval o).run P w=.ok .skip (w.setRow (c.P n).blk (dN x3 ((c.P n).off+i*(c.P n).sz+j) X.toList))):gw P E σ a w c o (ws++dw o .un):=by
 unfold FW at h;obtain⟨ob,xq,h⟩:=Rd.bind_some h;have hg:=dh xq;split at h
 ·rename_i el xs;obtain⟨te,h6,h⟩:=Rd.bind_some h;have h6:=dE h6;split at h
  ·rename_i q t hw;cases h9:bK n t with
   |true=>rw[h9]at h;simp at h
   |false=>
    rw[h9,ax]at h;have x8:n≠t:=λe=>by subst e;rw[Nat.beq_refl]at h9;cases h9
    obtain⟨y7,xh,h⟩:=Rd.bind_some h;have N:=dh xh;split at h
    ·rename_i e2 zs;obtain⟨t2,h7,h⟩:=Rd.bind_some h;have h7:=dE h7;obtain⟨h8,h⟩:=cG h;simp only[aM]at h8;obtain⟨x9,x7⟩:=h8;have x7:=cM x7;split at h
     ·rename_i cs xo;obtain rfl:=aJ h;obtain⟨m1,m2,m3⟩:=Ud (E:=E) (w:=w) (c:=c) xo;obtain⟨_,_,hu⟩:=DD hw;rw[og]at hu;obtain⟨⟨t1,q1,xa,jG⟩,x4,x5⟩:=z.obj n _ hg;obtain rfl:te=t1:=aJ (h6.symm.trans q1);obtain⟨⟨t3,q3,xm,Y⟩,xf,_⟩:=z.obj t _ N;obtain rfl:t2=t3:=aJ (h7.symm.trans q3);have xj:j+cs.length<=te.ks.length:=by rw[m2];exact x7
      have xt:cs.map CV.kd=(te.ks.drop j).take cs.length:=by rw[m1,m2]
      have xr:i<xs.length:=by rw[<-x4.n];exact hi
      obtain⟨U,x2,hb⟩:=x4.pos hi;have xi:=kH jG;have hz:=tP jG xt xj xr;have x6:=kH hz;have same:∀f r,fT (dV xs i j cs) f r->fT xs f r:=λf r H=>(xi f r).2 (by have:=(x6 f r).1 H;rwa[jA]at this);have y3:∀y∈xs,y.length=(c.P n).sz:=λy hy=>by rw[xa,<-jG y hy];simp
      let w':=w.setRow (c.P n).blk (dN x2 ((c.P n).off+i*(c.P n).sz+j) X.toList);have V:∀b,b≠(c.P n).blk->w'.heap[b]? =w.heap[b]? :=λb hb=>setRow_other w _ b _ hb;have xn:∀i j,¬fT zs i j:=by rintro i j ⟨y,x,h1,h2,h3⟩;rw[gF x9 (Y y (aU h1)) h2]at h3;cases h3
      have M:(c.P t).nil=aq->fu c t (.row e2 ao zs) (c.P t).blk:=λA=>.inl ⟨A,rfl⟩;have h4:fu c n (.row el ao xs) (c.P n).blk:=.inl ⟨U,rfl⟩;have x0:(c.P t).nil=aq->(c.P t).blk≠(c.P n).blk:=λA O=>x8 (z.sep n _ t _ _ hg N h4 (by rw[<-O];exact M A));let c':gn:=⟨c.P,λm f r=>if m=n/\f=i/\r=j+q then c.P t else c.G m f r,c.K⟩
      have h5:c'.G n i (j+q)=c.P t:=bm ⟨rfl,rfl,rfl⟩;have xc:∀f r,¬(f=i/\r=j+q)->c'.G n f r=c.G n f r:=λf r h=>bh (λe=>h ⟨e.2.1,e.2.2⟩);have xd:∀m,m≠n->c'.G m=c.G m:=λm hm=>by funext f r;exact bh (λe=>hm e.1)
      have I:∀f r,fT (dV xs i j cs) f r->(c'.G n f r).nil=aq->(f=i/\r=j+q/\(c.P t).nil=aq/\(c'.G n f r).blk=(c.P t).blk)\/(¬(f=i/\r=j+q)/\(c.G n f r).nil=aq/\(c'.G n f r).blk=(c.G n f r).blk/\fu c n (.row el ao xs) (c.G n f r).blk):=by
       intro f r hh A;by_cases O:f=i/\r=j+q
       ·obtain⟨rfl,rfl⟩:=O;rw[h5]at A⊢;exact .inl ⟨rfl,rfl,A,rfl⟩
       ·rw[xc f r O]at A⊢;exact .inr ⟨O,A,rfl,.inr ⟨rfl,f,r,same f r hh,A,rfl⟩⟩
      obtain⟨hj,xe⟩:=iO.agR (R':=λB C u1 x1=>if ao=ao then XC E w' (c'.G n) B C u1 x1 else Holds E w' c'.K u1 x1) x4 hb y3 (i:=i) (j:=j) (cs:=cs) (vs:=X.toList) hi (by rw[xa];exact xj) (by rw[dn,xg.1,m2])
       (λk x hk=>by
        obtain⟨y,hy,y2⟩:=m3 k x hk;obtain⟨u,xz,hc⟩:=xg.2 k y hy;refine⟨u,by rw[cR];exact xz,?_⟩
        rw[bm rfl];rcases y2 with ⟨hl,xx⟩|⟨rfl,rfl⟩
        ·exact tN hl (xx u hc)
        ·have xu:k=q:=hu k t hy;subst xu;have hc:u=j5 (c.P t):=hc;refine⟨by rw[h5];exact hc,t2,h7,x9,by rw[h5];exact xm,Y,?_⟩
         rw[h5];exact xf.frame (λA=>V _ (x0 A)) (λB C y1 x1 u1 g1 g2 hr=>by rw[bm rfl]at hr;exact tU hr (gF x9 (Y y1 (aU g1)) g2)))
       (λB y1 C x1 u1 h1 h2 xl hr=>by
        rw[bm rfl]at hr⊢;have ha:XC E w' (c.G n) B C u1 x1:=hr.frame (λhl A=>V _ ((x5 rfl).out B C ⟨y1,x1,h1,h2,hl⟩ A U));have xk:¬(B=i/\C=j+q):=by
         rintro ⟨rfl,rfl⟩;have hq:q<cs.length:=by obtain⟨_,hq,_⟩:=DD hw;rw[og]at hq;rw[m2];exact(aW.1 hq).1
         rcases xl with h|h
         ·exact h rfl
         ·exact h ⟨by omega,by omega⟩
        cases x1 with
        |l ee zz=>obtain⟨r1,r2⟩:=ha;unfold XC;rw[xc B C xk];exact⟨r1,r2⟩
        |i=>exact ha
        |b=>exact ha
        |s=>exact ha)
      have hr:=xb x2 hb (by rw[dn]at hj;exact hj);let σ1:=ox (ox σ (c6 n) (.o (.row el ao (dV xs i j cs)))) (c6 t) (.o .dead);obtain⟨s1,s2,s3⟩:=pC σ1 o .un;have key:∀m,wr σ1 (dw o .un) (c6 m)=if m=t then .o .dead else if m=n then .o (.row el ao (dV xs i j cs))else σ (c6 m):=λm=>by rw[s3];show(ox (ox σ (c6 n) (.o (.row el ao (dV xs i j cs)))) (c6 t) (.o .dead)) (c6 m)=_;rw[oc,oc]
      have hv:∀m,σ (c6 m)≠ .jw->wr σ1 (dw o .un) (c6 m)≠ .jw:=λm hm=>by rw[key];split;simp;split;simp;exact hm
      have hA:pE σ c c':=λm _=>⟨rfl,λhf=>xd m (λe=>by subst e;rw[hF]at hf;cases hf)⟩
      have y6:∀m,m=n\/m=t->∃ob,σ (c6 m)=.o ob:=by rintro m (rfl|rfl);exact⟨_,hg⟩;exact⟨_,N⟩
      have R:∀m x,(m=n\/m=t)->wr σ1 (dw o .un) (c6 m)=.o x->(m=t/\x=.dead)\/(m=n/\x=.row el ao (dV xs i j cs)):=by
       intro m x hm H;rw[key]at H;by_cases S:m=t
       ·rw[bm S]at H;cases H;exact .inl ⟨S,rfl⟩
       ·rw[bh S,bm (hm.resolve_right S)]at H;cases H;exact .inr ⟨hm.resolve_right S,rfl⟩
      have hh:=z.qW (σ':=wr σ1 (dw o .un)) (w':=w') (c':=c') (λm=>m=n\/m=t) (λm hm=>by rw[key,bh (λe=>hm (.inr e)),bh (λe=>hm (.inl e))]) hv hA (λm hm _=>xd m (λe=>hm (.inl e)))
       (λb _ xw=>V b (λe=>xw ⟨n,_,.inl rfl,hg,by rw[e];exact h4⟩)) (by simp[w',iX]) (λ_ h=>h) (λ_ h=>.inl h) (λb hb=>iB (z.lt b hb) (by simp[w',iX]))
       (λm x hm H=>by
        rcases R m x hm H with ⟨rfl,rfl⟩|⟨rfl,rfl⟩
        ·trivial
        ·refine⟨⟨te,q1,xa,hz⟩,xe,λ_=>⟨λB C hh A _ O=> ?_,λB C i2 j2 h1 h2 n1 y4 O=> ?_⟩⟩
         ·rcases I B C hh A with ⟨_,_,g1,g2⟩|⟨_,g1,g2,g3⟩
          ·exact x0 g1 (g2.symm.trans O)
          ·exact(x5 rfl).out B C (same B C hh) g1 U (g2.symm.trans O)
         ·rcases I B C h1 n1 with ⟨a1,a2,a3,a4⟩|⟨a1,a2,a3,a4⟩<;>rcases I i2 j2 h2 y4 with ⟨b1,b2,b3,b4⟩|⟨b1,b2,b3,b4⟩
          ·exact⟨a1.trans b1.symm,a2.trans b2.symm⟩
          ·exfalso;exact x8 (z.sep m _ t _ _ hg N b4 (by rw[<-b3,<-O,a4];exact M a3))
          ·exfalso;exact x8 (z.sep m _ t _ _ hg N a4 (by rw[<-a3,O,b4];exact M b3))
          ·exact(x5 rfl).one B C i2 j2 (same B C h1) (same i2 j2 h2) a2 b2 (a3.symm.trans (O.trans b3)))
       (λm x b hm H hf=>by
        rcases R m x hm H with ⟨rfl,rfl⟩|⟨rfl,rfl⟩
        ·exact hf.elim
        ·have ht:jM (λk=>k=m\/k=t) σ c b:=by
          rcases hf with ⟨_,rfl⟩|⟨_,B,C,hh,A,rfl⟩
          ·exact⟨m,_,.inl rfl,hg,h4⟩
          ·rcases I B C hh A with ⟨_,_,g1,g2⟩|⟨_,g1,g2,g3⟩
           ·rw[g2];exact⟨t,_,.inr rfl,N,M g1⟩
           ·rw[g2];exact⟨m,_,.inl rfl,hg,g3⟩
         exact⟨.inl ht,z.Fy ht.own⟩)
       (λm x m' x' b hm xv H y0 hf xp=>by
        rcases R m x hm H with ⟨rfl,rfl⟩|⟨rfl,rfl⟩
        ·exact hf.elim
        ·rcases R m' x' xv y0 with ⟨rfl,rfl⟩|⟨rfl,rfl⟩
         ·exact xp.elim
         ·rfl)
       (λm bs hm H=>by rcases R m _ hm H with ⟨_,h⟩|⟨_,h⟩<;>cases h) rfl rfl rfl
      intro K Q hK;refine vn hr (hK undef w' c' hh.1 ?_ hh.2 hA);refine xy.qW z hh.2 hA hv o undef (λk hk=>by rw[s1 k hk];show slot (ox (ox σ (c6 n) (.o (.row el ao (dV xs i j cs)))) (c6 t) (.o .dead)) k=_;rw[iu,iu]) (λd ho=>⟨hd d ho,?_,?_⟩)
      ·rw[s2 d ho];trivial
      ·rw[s2 d ho];intro k hk;simp[cF]at hk
     ·simp at h
    ·simp at h
  ·simp at h
 ·simp at h
theorem UB(h:UA d=ai (n,i,j,lo,hi)):d=[.iv n i j lo hi]:=by
 unfold UA at h;split at h
 ·cases h;rfl
 ·cases h
theorem Ql(t:Ok E σ w c)(xd:e6 E σ a w c)(hd:∀d,o.dst=ai d->d<a.tmps.size)(hF:vr n=aq)(hi:i<(c.P n).n)(h:(Ua E n i j i2 j2 lo h8).val σ=ai ws)(hv:fI E w c X [.iv n i2 j2 lo h8])
  (hc:∀(h4:eF bP),nb w (c.P n).blk h4->(c.P n).off+i*(c.P n).sz+j+X.size<=h4.size->(execOp a.eval o).run P w=.ok .skip (w.setRow (c.P n).blk (dN h4 ((c.P n).off+i*(c.P n).sz+j) X.toList))):gw P E σ a w c o (ws++dw o .un):=by
 unfold Ua at h;obtain⟨ob,x4,h⟩:=Rd.bind_some h;have hg:=dh x4;split at h
 ·rename_i el xs;obtain⟨te,h6,h⟩:=Rd.bind_some h;have h6:=dE h6;split at h
  ·rename_i e2 e3 hk x8;obtain⟨x3,h9⟩:=cG h;clear h;have:=aX x3;subst this;obtain rfl:=aJ h9;obtain⟨u,hu,⟨⟨x6,xe⟩,_⟩⟩:=hv.2 0 _ rfl;obtain⟨⟨t1,q1,ha,jG⟩,h5,x7⟩:=t.obj n _ hg;obtain rfl:te=t1:=aJ (h6.symm.trans q1);obtain⟨zs,y,t3,r1,r2,r3,r4,r5,r6,r7,_⟩:=wk t hg h6 x8 x6;rw[eI r1 r2];simp only[iH];generalize h7:[CV.l e2 (dR zs lo h8)]=cs;have O:cs.length=1:=by rw[<-h7];rfl
   have xh:j<te.ks.length:=(aW.1 hk).1;have hw:j+cs.length<=te.ks.length:=by omega
   have x9:cs.map CV.kd=(te.ks.drop j).take cs.length:=by rw[O,List.take_one,Xm,hk,<-h7];rfl
   have x5:i<xs.length:=by rw[<-h5.n];exact hi
   obtain⟨S,Y,f⟩:=h5.pos hi;have x2:=tP jG x9 hw x5;have xf:∀y∈xs,y.length=(c.P n).sz:=λy hy=>by rw[ha,<-jG y hy];simp
   let w':=w.setRow (c.P n).blk (dN Y ((c.P n).off+i*(c.P n).sz+j) X.toList);have B:∀b,b≠(c.P n).blk->w'.heap[b]? =w.heap[b]? :=λb f=>setRow_other w _ b _ f;have H:fu c n (.row el ao xs) (c.P n).blk:=.inl ⟨S,rfl⟩;let K':aN->Prop:=λb=>c.K b\/∃r s,fT xs r s/\(c.G n r s).nil=aq/\b=(c.G n r s).blk;let c':gn:=⟨c.P,c.G,K'⟩
   have A:∀b,K' b->b≠(c.P n).blk:=by
    rintro b (f|⟨r,s,z,M,rfl⟩) he
    ·exact t.kk n _ _ hg H (he▸f)
    ·exact(x7 rfl).out r s z M S he
   have x0:∀(r:aN) (y1:aE CV) (s:aN) (I:CV) (N:bP),xs[r]? =ai y1->y1[s]? =ai I->XC E w (c.G n) r s N I->Holds E w' K' N I:=by intro r y1 s I N h1 h2 V;have z:Holds E w K' N I:=tr V (λhl M=>.inr ⟨r,s,⟨y1,I,h1,h2,hl⟩,M,rfl⟩);exact z.frame (λb f=>B b (A b f)) (λ_ h=>h)
   have hz:Holds E w' K' u (.l e2 (dR zs lo h8)):=by
    have z:Holds E w K' (j5 (c.G n i2 j2)) (.l e2 zs):=
     ny r3 r5 r6 (r7.frame (λ_=>rfl) (λi j y x u hi hj V=>jK (gF r4 (r6 y (aU hi)) hj) V)) (λM=>.inr ⟨i2,j2,⟨y,_,r1,r2,rfl⟩,M,rfl⟩)
    exact(Bp r3 z r7.n r5 xe).frame (λb f=>B b (A b f)) (λ_ h=>h)
   obtain⟨R,ht⟩:=iO.put (R':=λr s N I=>if aq=ao then XC E w' (c'.G n) r s N I else Holds E w' c'.K N I) h5 f xf (i:=i) (j:=j) (cs:=cs) (vs:=X.toList) hi (by rw[ha];exact hw) (by rw[dn,hv.1,O];rfl)
    (λk x hk=>by
     rw[<-h7]at hk;cases k with
     |zero=>
      cases hk;refine⟨u,by rw[cR];exact hu,?_⟩
      rw[bh (by simp)];exact hz
     |succ k=>simp at hk)
    (λr y1 s I N h1 h2 V=>by rw[bm rfl]at V;rw[bh (by simp)];exact x0 r y1 s I N h1 h2 V)
   have V:=hc Y f (by rw[dn]at R;exact R);let σ1:=ox σ (c6 n) (.o (.row el aq (dV xs i j cs)));obtain⟨s1,s2,s3⟩:=pC σ1 o .un;have key:∀m,wr σ1 (dw o .un) (c6 m)=if m=n then .o (.row el aq (dV xs i j cs))else σ (c6 m):=λm=>by rw[s3];show(ox σ (c6 n) (.o (.row el aq (dV xs i j cs)))) (c6 m)=_;rw[oc]
   have U:∀m,σ (c6 m)≠ .jw->wr σ1 (dw o .un) (c6 m)≠ .jw:=λm hm=>by rw[key];split;simp;exact hm
   have hA:pE σ c c':=λm _=>⟨rfl,λ_=>rfl⟩
   have h3:∀m x,m=n->wr σ1 (dw o .un) (c6 m)=.o x->x=.row el aq (dV xs i j cs):=by intro m x hm C;rw[key,bm hm]at C;cases C;rfl
   have z:=t.qW (σ':=wr σ1 (dw o .un)) (w':=w') (c':=c') (λm=>m=n) (λm hm=>by rw[key,bh hm]) U hA (λm hm _=>rfl)
    (λb _ xc=>B b (λe=>xc ⟨n,_,rfl,hg,by rw[e];exact H⟩)) (by simp[w',iX]) (λ_ h=>.inl h)
    (λb f=>by
     rcases f with f|⟨r,s,z,M,rfl⟩
     ·exact .inl f
     ·exact .inr (.inl ⟨n,_,rfl,hg,.inr ⟨rfl,r,s,z,M,rfl⟩⟩))
    (λb f=>by
     have xa:b<w.heap.size:=by
      rcases f with f|⟨r,s,z,M,rfl⟩
      ·exact t.lt b f
      ·exact Own.lt t ⟨n,_,hg,.inr ⟨rfl,r,s,z,M,rfl⟩⟩
     exact iB xa (by simp[w',iX]))
    (λm x hm C=>by obtain rfl:=h3 m x hm C;subst hm;exact⟨⟨te,q1,ha,x2⟩,ht,λh=>by cases h⟩)
    (λm x b hm C hf=>by
     obtain rfl:=h3 m x hm C;subst hm;rcases hf with ⟨_,rfl⟩|⟨C,_⟩
     ·exact⟨.inl ⟨m,_,rfl,hg,H⟩,λhk=>A _ hk rfl⟩
     ·cases C)
    (λm x m' x' b hm xb C xi hf xg=>by rw[hm,xb])
    (λm bs hm C=>by have:=h3 m _ hm C;cases this) rfl rfl rfl
   intro K Q hK;refine vn V (hK undef w' c' z.1 ?_ z.2 hA);refine xd.qW t z.2 hA U o undef (λk hk=>by rw[s1 k hk];show slot (ox σ (c6 n) (.o (.row el aq (dV xs i j cs)))) k=_;rw[iu]) (λd ho=>⟨hd d ho,?_,?_⟩)
   ·rw[s2 d ho];trivial
   ·rw[s2 d ho];intro k hk;simp[cF]at hk
  ·simp at h
 ·simp at h
theorem Ru(hE:dY P E)(N:Ok E σ w c)(x3:e6 E σ a w c)(hd:∀d,o.dst=ai d->d<a.tmps.size)(ho:o.op=.store t p x)(h:(lE E nm o).val σ=ai e):gw P E σ a w c o e.ws:=by
 simp only[lE,ho]at h;obtain⟨ti,h1,h⟩:=Rd.bind_some h;obtain⟨pv,h2,h⟩:=Rd.bind_some h;obtain⟨xv,h3,h⟩:=Rd.bind_some h;have h1:=dE h1;obtain⟨ep,kp⟩:=iJ x3 h2;obtain⟨ex,kx⟩:=lN x3 h3;cases xv with
 |v g ys=>
  obtain⟨h4,h⟩:=cG h;have h4:=aX h4;obtain⟨ws,f,h⟩:=Rd.bind_some h;obtain rfl:=aJ h;have H:=pO.cells ex;have xr:(a.eval x).cells.size=ti.ks.length:=by rw[H.1,h4]
  have ky:∀b∈ys,iU σ b:=λb m n R=>kx n (bM.2 ⟨b,m,R⟩);obtain⟨_,_,_,_,x4,_⟩:=hE.info t ti h1;have X:∀{b of:aN} {S:eF bP},a.eval p=.pointer (ai (ad b of))->nb w b S->of+(a.eval x).cells.size<=S.size->(execOp a.eval o).run P w=.ok .skip (w.setRow b (dN S of (a.eval x).cells.toList)):=by intro b of S hp m hf;unfold execOp;rw[ho];refine WJ ?_;rw[hp];exact HG w hE h1 xr m hf H.one
  have xf:∀(b:aN) (new:eF bP),Own σ c b->∀b',c.K b'->(w.setRow b new).heap[b']? =w.heap[b']? :=by intro b new m b' hk;exact setRow_other w b b' new (λe=>by subst e;exact N.Fy m hk)
  have xq:(FX E pv ys).val σ=ai ws\/(∃n i j,pv=.rp n i j/\vr n=ao/\(FW E n i j ys).val σ=ai ws)\/(∃n i j Q B lo hi,pv=.rp n i j/\vr n=aq/\ys=[.iv n Q B lo hi]/\(Ua E n i j Q B lo hi).val σ=ai ws):=by
   cases pv with
   |rp n i j=>
    unfold SD at f;simp only at f;cases hF:vr n with
    |true=>rw[hF,aw]at f;exact .inr (.inl ⟨n,i,j,rfl,hF,f⟩)
    |false=>
     rw[hF,ax]at f;cases hv:UA ys with
     |none=>rw[hv]at f;exact .inl f
     |some q=>obtain⟨n2,Q,B,lo,hi⟩:=q;rw[hv]at f;obtain⟨m,h9⟩:=cG f;clear f;have:=aX m;subst this;exact .inr (.inr ⟨n,i,j,Q,B,lo,hi,rfl,hF,UB hv,h9⟩)
   |_=>exact .inl f
  clear f;rcases xq with f|⟨n,i,j,rfl,hF,f⟩|⟨n,i,j,Q,B,lo,hi,rfl,hF,rfl,f⟩
  rotate_left
  ·obtain⟨xi,x2⟩:=ep;exact MP N x3 hd hF xi f H (by rw[<-h4]at x4;exact x4) (λS m hf=>X x2 m hf)
  ·obtain⟨xi,x2⟩:=ep;exact Ql N x3 hd hF xi f H (λS m hf=>X x2 m hf)
  cases pv with
  |bp n j=>
   obtain⟨ob,hg,f⟩:=Rd.bind_some f;have hg:=dh hg;cases ob with
   |box xs=>
    obtain⟨h6,f⟩:=cG f;have h6:=cM h6;obtain rfl:=aJ f;obtain⟨S,m,ht,xt⟩:=N.obj n _ hg;have he:Own σ c (c.P n).blk:=⟨n,_,hg,rfl⟩
    have A:j+(a.eval x).cells.size<=S.size:=by rw[H.1,ht];exact h6
    have xa:j+(a.eval x).cells.toList.length<=S.size:=by rw[dn];exact A
    have xb:=xf (c.P n).blk (dN S j (a.eval x).cells.toList) he;refine sP N x3 hd hg (ob':=.box (hS xs j ys)) ?_ (λb m=>m) (λzs hz b m=> ?_) (s:=.un) trivial (λn R=>by simp[cF]at R) (λb m x8=>setRow_other w _ b _ (λe=>x8 e)) (by simp[iX]) rfl rfl rfl (.inr ⟨X ep m A,rfl⟩)
    ·have:=(fI.put (E:=E) (w:=w) (c:=c) ⟨ht,xt⟩ H h6)
     refine⟨_,m.setRow (eM xa),this.1,λq b hq=> ?_⟩
     obtain⟨u,hu,xu⟩:=this.2 q b hq;exact⟨u,hu,xu.frame xb (λ_ h=>h) (λ_ _=>⟨rfl,rfl⟩)⟩
    ·cases hz;rcases Bt m with m|m
     ·exact N.kn n xs hg b m
     ·exact ky b m
   |_=>simp at f
  |rp n i j=>
   obtain⟨ob,hg,f⟩:=Rd.bind_some f;have hg:=dh hg;cases ob with
   |row el x5 xs=>
    obtain⟨te,h6,f⟩:=Rd.bind_some f;have h6:=dE h6;obtain⟨h7,f⟩:=cG f;obtain⟨⟨cs,w2⟩,h8,f⟩:=Rd.bind_some f;obtain rfl:=aJ f;obtain⟨m1,m2,_,m3⟩:=Be (E:=E) (w:=w) (c:=c) h7 h8;obtain⟨⟨t2,q1,ht,jG⟩,Y,V⟩:=N.obj n _ hg;obtain rfl:te=t2:=aJ (h6.symm.trans q1);obtain⟨hi,x2⟩:=ep;have xh:cs.length=((te.ks.drop j).take ys.length).length:=by rw[<-m1];simp
    have x7:j+cs.length<=te.ks.length:=by
     rw[du,gz]at xh;have:0<cs.length:=by rw[m2,h4];exact x4
     omega
    have xg:cs.map CV.kd=(te.ks.drop j).take cs.length:=by rw[m1,m2]
    have x9:i<xs.length:=by rw[<-Y.n];exact hi
    have I:(c.P n).nil=false:=by
     cases R:(c.P n).nil with
     |false=>rfl
     |true=>have:=(Y.nil R).1;subst this;simp at x9
    have he:Own σ c (c.P n).blk:=⟨n,_,hg,.inl ⟨I,rfl⟩⟩
    have xb:=λnew=>xf (c.P n).blk new he;have x6:=kH jG;have hj:=tP jG xg x7 x9;have x0:=kH hj;have same:∀i' j',fT (dV xs i j cs) i' j'->fT xs i' j':=λi' j' hx=>(x6 i' j').2 (by have:=(x0 i' j').1 hx;rwa[jA]at this);obtain⟨_,U,m⟩:=Y.pos hi;have xp:∀y∈xs,y.length=(c.P n).sz:=λy hy=>by rw[ht,<-jG y hy];simp
    have xl:=xb (dN U ((c.P n).off+i*(c.P n).sz+j) (a.eval x).cells.toList);have hw:∀b,c.K b->(w.setRow (c.P n).blk (dN U ((c.P n).off+i*(c.P n).sz+j) (a.eval x).cells.toList)).heap[b]? =w.heap[b]? :=xl;generalize r:w.setRow (c.P n).blk (dN U ((c.P n).off+i*(c.P n).sz+j) (a.eval x).cells.toList)=w' at hw;have O:∀b,b≠(c.P n).blk->w'.heap[b]? =w.heap[b]? :=λb m=>by rw[<-r];exact setRow_other w _ b _ m
    obtain⟨A,ha⟩:=iO.put (R':=λC z u1 x1=>if x5=ao then XC E w' (c.G n) C z u1 x1 else Holds E w' c.K u1 x1) Y m xp (i:=i) (j:=j) (cs:=cs) (vs:=(a.eval x).cells.toList) hi (by rw[ht];exact x7) (by rw[dn,H.1,m2])
     (λq y hq=>by
      obtain⟨r1,r2,r3⟩:=m3 _ H q y hq;refine⟨ND y,by rw[cR];exact r1,?_⟩
      split
      ·exact tN r2 ⟨rfl,r3⟩
      ·exact jK r2 ⟨rfl,r3⟩)
     (λC y1 z x1 u1 h1 h2 hr=>by
      cases x5 with
      |true=>rw[bm rfl]at hr⊢;exact hr.frame (λhl R=>O _ ((V rfl).out C z ⟨y1,x1,h1,h2,hl⟩ R I))
      |false=>rw[bh (by simp)]at hr⊢;exact hr.frame hw (λ_ h=>h))
    rw[r]at ha;refine sP N x3 hd hg (ob':=.row el x5 (dV xs i j cs)) ?_ ?_ (λzs hz=>by cases hz) (s:=.un) trivial (λn R=>by simp[cF]at R) (w':=w') (λb m x8=>O b (λe=>x8 (.inl ⟨I,e⟩))) (by rw[<-r];simp[iX]) (by rw[<-r];rfl) (by rw[<-r];rfl) (by rw[<-r];rfl) (.inr ⟨?_,rfl⟩)
    ·exact⟨⟨te,q1,ht,hj⟩,ha,λhx=>⟨λC z hh=>(V hx).out C z (same C z hh),λC z Q B h1 h2=>(V hx).one C z Q B (same C z h1) (same Q B h2)⟩⟩
    ·rintro b (m|⟨hx,C,z,hh,R⟩)
     ·exact .inl m
     ·exact .inr ⟨hx,C,z,same C z hh,R⟩
    ·rw[<-r];refine X x2 m ?_;rw[dn]at A;exact A
   |_=>simp at f
  |ip n i j Q B=>
   obtain⟨ob,hg,f⟩:=Rd.bind_some f;have hg:=dh hg;cases ob with
   |row el x5 xs=>
    cases x5 with
    |false=>simp at f
    |true=>
    obtain⟨te,h6,f⟩:=Rd.bind_some f;have h6:=dE h6;split at f
    ·rename_i e2 xe;obtain⟨t2,h7,f⟩:=Rd.bind_some f;have h7:=dE h7;obtain⟨h8,f⟩:=cG f;obtain⟨⟨cs,w2⟩,h9,f⟩:=Rd.bind_some f;obtain rfl:=aJ f;have xj:plain ((t2.ks.drop B).take ys.length)=true:=bz.2 (λk hk=>bz.1 h8 k (kV (ia hk)));obtain⟨m1,m2,_,m3⟩:=Be (E:=E) (w:=w) (c:=c) xj h9;obtain⟨⟨hi,xc,x2⟩,_⟩:=ep;obtain⟨⟨t1,q1,ht,jG⟩,Y,V⟩:=N.obj n _ hg;obtain rfl:te=t1:=aJ (h6.symm.trans q1);obtain⟨zs,y,t3,r1,r2,r3,r4,r5,r6,r7,_⟩:=wk N hg h6 xe hi;obtain rfl:t2=t3:=aJ (h7.symm.trans r3);rw[eI r1 r2];simp only[iH];have xh:cs.length=((t2.ks.drop B).take ys.length).length:=by rw[<-m1];simp
     have x7:B+cs.length<=t2.ks.length:=by
      rw[du,gz]at xh;have:0<cs.length:=by rw[m2,h4];exact x4
      omega
     have xg:cs.map CV.kd=(t2.ks.drop B).take cs.length:=by rw[m1,m2]
     have xm:Q<zs.length:=by rw[<-r7.n];exact xc
     have x9:i<xs.length:=(aW.1 r1).1;obtain⟨M,U,m⟩:=r7.pos xc;obtain⟨I,pv,xy⟩:=Y.pos hi;have hc:fT xs i j:=⟨y,_,r1,r2,rfl⟩
     have he:Own σ c (c.G n i j).blk:=⟨n,_,hg,.inr ⟨rfl,i,j,hc,M,rfl⟩⟩
     have hw:=xf (c.G n i j).blk (dN U ((c.G n i j).off+Q*(c.G n i j).sz+B) (a.eval x).cells.toList) he;have xw:∀y∈zs,y.length=(c.G n i j).sz:=λy hy=>by rw[r5,<-r6 y hy];simp
     obtain⟨A,ha⟩:=iO.put (R':=λ_ _ u1 x1=>Sc u1 x1) r7 m xw (i:=Q) (j:=B) (cs:=cs) (vs:=(a.eval x).cells.toList) xc (by rw[r5];exact x7) (by rw[dn,H.1,m2])
      (λq y hq=>⟨ND y,by rw[cR];exact(m3 _ H q y hq).1,rfl,(m3 _ H q y hq).2.2⟩) (λ_ _ _ _ _ _ _ hr=>hr)
     generalize r:w.setRow (c.G n i j).blk (dN U ((c.G n i j).off+Q*(c.G n i j).sz+B) (a.eval x).cells.toList)=w' at hw ha;have O:∀b,b≠(c.G n i j).blk->w'.heap[b]? =w.heap[b]? :=λb m=>by rw[<-r];exact setRow_other w _ b _ m
     have xx:j<te.ks.length:=(aW.1 xe).1;have xn:[CV.l e2 (dV zs Q B cs)].map CV.kd=(te.ks.drop j).take [CV.l e2 (dV zs Q B cs)].length:=by rw[bu,List.take_one,Xm,xe];rfl
     have hj:=tP (i:=i) (j:=j) (cs:=[CV.l e2 (dV zs Q B cs)]) jG xn (by simp;omega) x9;have x6:=kH jG;have x0:=kH hj;have same:∀i' j',fT (dV xs i j [CV.l e2 (dV zs Q B cs)]) i' j'->fT xs i' j':=λi' j' hx=>(x6 i' j').2 (by have:=(x0 i' j').1 hx;rwa[jA]at this);have xo:(c.P n).blk≠(c.G n i j).blk:=λe=>(V rfl).out i j hc M I e.symm;have xk:iO w' (c.P n) (dV xs i j [CV.l e2 (dV zs Q B cs)]) (λC z u1 x1=>if ao=ao then XC E w' (c.G n) C z u1 x1 else Holds E w' c.K u1 x1):=by
      obtain⟨vs,k1,k2,k3,k4,k5⟩:=Y.mem I;refine⟨by rw[jA];exact Y.n,λR=>(by rw[I]at R;cases R),λ_=>⟨vs,k1.frame (O _ xo),k2,k3,k4,λC y1 z x1 g1 g2=> ?_⟩⟩
      rw[wL r1]at g1;simp only[if_true]at k5⊢;by_cases xd:C=i
      ·subst xd;rw[bm rfl]at g1;cases g1;have xp:y.length=te.ks.length:=by rw[<-jG y (aU r1)];simp
       rw[oZ (by simp;omega)]at g2;by_cases hq:j<=z/\z<j+[CV.l e2 (dV zs Q B cs)].length
       ·rw[bm hq]at g2;have:z=j:=by simp at hq;omega
        subst this;simp at g2;subst g2;obtain⟨u,hu,hr⟩:=k5 _ _ _ _ r1 r2;refine⟨u,hu,hr.1,t2,r3,r4,r5,tP r6 xg x7 xm,ha⟩
       ·rw[bh hq]at g2;obtain⟨u,hu,hr⟩:=k5 _ _ _ _ r1 g2;refine⟨u,hu,hr.frame (λhl R=>O _ (λe=> ?_))⟩
        have:=((V rfl).one _ _ _ _ ⟨y,x1,r1,g2,hl⟩ hc R M e).2;simp at hq;omega
      ·rw[bh xd]at g1;obtain⟨u,hu,hr⟩:=k5 _ _ _ _ g1 g2;exact⟨u,hu,hr.frame (λhl R=>O _ (λe=>xd ((V rfl).one _ _ _ _ ⟨y1,x1,g1,g2,hl⟩ hc R M e).1))⟩
     refine sP N x3 hd hg (ob':=.row el ao (dV xs i j [CV.l e2 (dV zs Q B cs)])) ?_ ?_ (λzs hz=>by cases hz) (s:=.un) trivial (λn R=>by simp[cF]at R) (w':=w') (λb m x8=>O b (λe=>x8 (.inr ⟨rfl,i,j,hc,M,e⟩))) (by rw[<-r];simp[iX]) (by rw[<-r];rfl) (by rw[<-r];rfl) (by rw[<-r];rfl) (.inr ⟨?_,rfl⟩)
     ·exact⟨⟨te,q1,ht,hj⟩,xk,λhx=>⟨λC z hh=>(V hx).out C z (same C z hh),λC z Q B h1 h2=>(V hx).one C z Q B (same C z h1) (same Q B h2)⟩⟩
     ·rintro b (m|⟨hx,C,z,hh,R⟩)
      ·exact .inl m
      ·exact .inr ⟨hx,C,z,same C z hh,R⟩
     ·rw[<-r];refine X x2 m ?_;rw[dn]at A;exact A
    ·simp at f
   |_=>simp at f
  |_=>simp[FX]at f
 |jS=>simp at h
 |un=>simp at h
end
end Go.FG
namespace Go.FG
theorem Nr(h:plain ks=ao):Jk ks=true:=by refine bz.2 (λk hk=> ?_);have:=bz.1 h k hk;cases k<;>first|rfl|exact this
theorem s6(h:∀y∈xs,y.map CV.kd=ks)(hp:plain ks=ao):¬fT xs i j:=by intro d;obtain⟨_,e,hk⟩:=(kH h i j).1 d;have:=bz.1 hp _ (aU hk);cases this
theorem GU{xs z:Row}{lo hi:aN}(d:lo<=hi)(f:hi<=xs.length)(h:z.length=hi-lo)(i:aN):(xs.take lo++z++xs.drop hi)[i]? =if lo<=i/\i<hi then z[i-lo]? else xs[i]? :=by
 by_cases a:i<lo
 ·rw[bh (by omega),ca,dj (by simp;omega),dP,bm a]
 ·by_cases b:i<hi
  ·rw[bm ⟨by omega,b⟩,ca,cY (by simp;omega),dj (by simp;omega)];congr 1;simp;omega
  ·rw[bh (by omega),ca,cY (by simp;omega),cY (by simp;omega),dO];congr 1;simp;omega
section
variable {P:de} {E:fW} {σ:St} {a:Act} {w:cB} {c:gn} {o:gK} {nm:aN} {e:sj}
theorem NA(r:P.underlying t=ai (.slice el))(hi:P.info? el=ai inf)(s:inf.zero=ai z)(x:0<n)(k:nb w b cur)(m:of+n*z.cells.size<=cur.size)(j:∀u∈z.cells.toList,u.oneCell'=ao):
  (oe #[t] ty #[.slice (ai (ad b of)) n cp]).run P w=.ok (.tuple #[]) (w.setRow b (dN cur of (madeCells z.cells (n*z.cells.size)).toList)):=by
 have d:=mZ (P:=P) w (o:=of) (vs:=(madeCells z.cells (n*z.cells.size)).toList) k (by simpa [size_madeCells]using m) (λv f=>by
  unfold madeCells at f;simp only[zm,cN]at f;obtain⟨q,hq,rfl⟩:=f;have hq:q<n*z.cells.size:=by simpa using hq
  have hp:0<z.cells.size:=by rcases Ci z.cells.size with h|h;(rw[h]at hq;simp at hq);exact h
  have:q%z.cells.size<z.cells.size:=Ea _ hp;rw[getElem!_pos z.cells _ this];exact j _ (by simp))
 have i:(fC z.cells n)=madeCells z.cells (n*z.cells.size):=rfl;cases n with
 |zero=>omega
 |succ n=>simp[oe,run_underlying r,zeroValue,typeInfo,hi,s,i,d]
theorem BZ(d:P.underlying t=ai (.slice el)):(oe #[t] ty #[.slice A 0 cp]).run P w=.ok (.tuple #[]) w:=by cases A<;>simp[oe,run_underlying d]
theorem Rq(hE:dY P E)(B:Ok E σ w c)(N:e6 E σ a w c)(hd:∀d,o.dst=ai d->d<a.tmps.size){cl:Call}(ho:o.op=.call cl)(R:cl.callee=.builtin .clear)(h:(lE E nm o).val σ=ai e):gw P E σ a w c o e.ws:=by
 simp only[lE,ho,R]at h;split at h
 ·rename_i x hx;split at h
  ·rename_i t ht;obtain⟨k,hk,h⟩:=Rd.bind_some h;cases k with
   |l el=>
    obtain⟨v,h1,h⟩:=Rd.bind_some h;obtain⟨ws,f,h⟩:=Rd.bind_some h;obtain rfl:=aJ h;obtain⟨ev,kv⟩:=iJ N h1;have hu:=kg hE hk;have hx:=mU hx;have ht:=mU ht;have Q:∀{w'},(oe #[t] o.type #[a.eval x]).run P w=.ok (.tuple #[]) w'->(execOp a.eval o).run P w=.ok (.value (.tuple #[])) w':=by intro w' hr;obtain⟨cs,x7⟩:=ml (P:=P) (a:=a) (w:=w) ho R;rw[x7,hx,ht];simp only[builtin,Cw,e9,uU];exact iI hr
    have sv:iM E w c (.jS []) (.tuple #[]):=⟨#[],rfl,rfl,λj agg xs V=>by simp at V⟩
    have aj:∀A cp,a.eval x=.slice A 0 cp->(execOp a.eval o).run P w=.ok (.value (.tuple #[])) w:=λA cp hv=>Q (by rw[hv];exact BZ hu);have h4:∀(n:aN) (ex:aY) (xs:Row) (lo hi:aN) (te:TI),σ (c6 n)=.o (.row el ex xs)->E.ty el=ai te->plain te.ks=ao->u6 (c.P n) lo hi (a.eval x)->gw P E σ a w c o ([(c6 n,.o (.row el ex (xs.take lo++aT te.ks (hi-lo)++xs.drop hi)))]++dw o (.jS [])):=by
     intro n ex xs lo hi te hg h7 H hv;obtain⟨⟨t2,q1,O,jG⟩,M,xg⟩:=B.obj n _ hg;obtain rfl:te=t2:=aJ (h7.symm.trans q1);obtain⟨v1,v2,v3,v4⟩:=hv;have x0:hi<=xs.length:=by rw[<-M.n];exact v2
     have x3:=Nr H;have xe:(aT te.ks (hi-lo)).length=hi-lo:=by simp[aT]
     by_cases hz:hi-lo=0
     ·have h6:xs.take lo++aT te.ks (hi-lo)++xs.drop hi=xs:=by
       have:hi=lo:=by omega
       subst this;simp[aT]
      rw[h6];have hr:(execOp a.eval o).run P w=.ok (.value (.tuple #[])) w:=by
       cases hq:(c.P n).nil with
       |true=>exact aj _ _ (v3 hq)
       |false=>
        rcases v4 hq with ⟨_,h⟩|⟨_,oo,_,h⟩
        ·rw[hz]at h;exact aj _ _ h
        ·exact aj _ _ h
      exact sP B N hd hg (B.obj n _ hg) (λb R=>R) (λzs hz=>by cases hz) sv (λn X=>by simp[cF]at X) (λb _ _=>rfl) (bT _) rfl rfl rfl (.inl hr)
     ·have r:(c.P n).nil=false:=by
       cases hq:(c.P n).nil with
       |false=>rfl
       |true=>have:=(M.nil hq).1;subst this;simp at x0;omega
      obtain⟨C,k1,k2,k3,k4,k5⟩:=M.mem r;rcases v4 r with ⟨u1,hv⟩|⟨u1,oo,_,hv⟩
      ·obtain⟨xj,x8,xf,_,_,xc⟩:=hE.info el te h7;obtain⟨z,xd,h9,_⟩:=xc x3;have ha:z.cells.size=te.ks.length:=by rw[h9];simp
       have he:(c.P n).off+lo*(c.P n).sz+(hi-lo)*z.cells.size<=C.size:=by rw[ha,<-O,jL,<-dc];have:(lo+(hi-lo))*(c.P n).sz<=(c.P n).cap*(c.P n).sz:=b5 _ (by omega);omega
       have hr:=NA (P:=P) (w:=w) (ty:=o.type) (of:=(c.P n).off+lo*(c.P n).sz) (n:=hi-lo) (cp:=(c.P n).cap-lo) hu x8 xd (by omega) k1 he (by rw[h9];intro u h8;obtain⟨k,xi,rfl⟩:=cN.1 (by simpa using h8:u∈te.ks.map ie);cases k<;>rfl);rw[<-hv]at hr;have x5:Own σ c (c.P n).blk:=⟨n,_,hg,.inl ⟨r,rfl⟩⟩
       rw[ha,h9]at hr;have x1:(madeCells (te.ks.map ie).toArray ((hi-lo)*te.ks.length)).toList.length=(hi-lo)*te.ks.length:=by simp[size_madeCells]
       have I:(c.P n).off+lo*(c.P n).sz+(madeCells (te.ks.map ie).toArray ((hi-lo)*te.ks.length)).toList.length<=C.size:=by rw[x1,<-ha];exact he
       have hc:=k1.setRow (eM I);have S:=gb I;generalize x2:dN C ((c.P n).off+lo*(c.P n).sz) (madeCells (te.ks.map ie).toArray ((hi-lo)*te.ks.length)).toList=new at hr hc S;have x4:new.size=C.size:=by rw[<-x2];exact eM I
       have Y:∀b,b≠(c.P n).blk->(w.setRow (c.P n).blk new).heap[b]? =w.heap[b]? :=λb R=>setRow_other w _ b _ R;have hw:∀b,c.K b->(w.setRow (c.P n).blk new).heap[b]? =w.heap[b]? :=λb hk=>Y b (λe=>by subst e;exact B.Fy x5 hk);have m:∀y∈xs.take lo++aT te.ks (hi-lo)++xs.drop hi,y.map CV.kd=te.ks:=by
        intro y hy;rw[bc,bc]at hy;rcases hy with (hy|hy)|hy
        ·exact jG y (ia hy)
        ·exact wU x3 _ y hy
        ·exact jG y (kV hy)
       refine sP B N hd hg (ob':=.row el ex (xs.take lo++aT te.ks (hi-lo)++xs.drop hi)) ?_ ?_ (λzs hz=>by cases hz) (w':=w.setRow (c.P n).blk new) ⟨#[],rfl,rfl,λj agg xs V=>by simp at V⟩ (λn X=>by simp[cF]at X) (λb _ xa=>Y b (λe=>xa (.inl ⟨r,e⟩))) (by simp[iX]) rfl rfl rfl (.inl (Q hr))
       ·refine⟨⟨te,h7,O,m⟩,⟨?_,λX=>(by rw[r]at X;cases X),λ_=>⟨new,hc,k2,k3,by rw[x4];exact k4,λi y j x s V=> ?_⟩⟩,λ_=>⟨λi j hh=>cJ hh (s6 m H),λi j i' j' hh=>cJ hh (s6 m H)⟩⟩
        ·rw[M.n];simp[aT];omega
        ·have hl:=gF H (m y (aU s)) V;have xh:j<te.ks.length:=by rw[<-m y (aU s),bJ];exact(aW.1 V).1
         have x6:∀u,Sc u x->(if ex=ao then XC E (w.setRow (c.P n).blk new) (c.G n) i j u x else Holds E (w.setRow (c.P n).blk new) c.K u x):=by
          intro u hu;split
          ·exact tN hl hu
          ·exact jK hl hu
         rw[GU v1 x0 xe]at s;rw[S,x1];by_cases hq:lo<=i/\i<hi
         ·rw[bm hq]at s;obtain⟨U,k,hf,rfl⟩:=tV s V;have f:(i-lo+1)*te.ks.length<=(hi-lo)*te.ks.length:=b5 _ U;have h3:i*te.ks.length=lo*te.ks.length+(i-lo)*te.ks.length:=by rw[<-dc];congr 1;omega
          rw[dc]at f;rw[O,bm (by omega)];refine⟨ie k,?_,x6 _ ?_⟩
          ·have:=lr (n:=hi-lo) U hf;rw[cR,<-this];congr 1;omega
          ·have xb:=bz.1 H k (aU hf);cases k<;>first|exact⟨rfl,trivial⟩|exact⟨rfl,bA _⟩|cases xb
         ·rw[bh hq]at s;obtain⟨u,h8,h5⟩:=k5 i y j x s V;refine⟨u,?_,x6 u ?_⟩
          ·rw[bh ?_];exact h8;rw[O];by_cases x9:i<lo
           ·have:(i+1)*te.ks.length<=lo*te.ks.length:=b5 _ x9;rw[dc]at this;omega
           ·have:hi*te.ks.length<=i*te.ks.length:=b5 _ (by omega);have h3:hi*te.ks.length=lo*te.ks.length+(hi-lo)*te.ks.length:=by rw[<-dc];congr 1;omega
            omega
          ·split at h5
           ·exact tU h5 hl
           ·exact oV h5 hl
       ·rintro b (R|⟨_,i,j,hh,_⟩)
        ·exact .inl R
        ·exact cJ hh (s6 m H)
      ·omega
    unfold P7 at f;cases v with
    |nl=>obtain rfl:=aJ f;exact fO B N hd sv (λn X=>by simp[cF]at X) (aj _ _ ev)
    |own n=>
     obtain⟨ob,hg,f⟩:=Rd.bind_some f;have hg:=dh hg;cases ob with
     |row e' ex xs=>obtain⟨te,q1,f⟩:=Rd.bind_some f;obtain⟨q2,f⟩:=cG f;obtain rfl:=aJ f;simp only[aM]at q2;have:=aX q2.1;subst this;have ev:a.eval x=j5 (c.P n):=ev;have:=h4 n ex xs 0 xs.length te hg (dE q1) q2.2 (by rw[ev];exact vi B hg);simpa using this
     |_=>simp at f
    |vw n lo hi=>
     obtain⟨ob,hg,f⟩:=Rd.bind_some f;have hg:=dh hg;cases ob with
     |row e' ex xs=>obtain⟨te,q1,f⟩:=Rd.bind_some f;obtain⟨q2,f⟩:=cG f;obtain rfl:=aJ f;simp only[aM]at q2;have:=aX q2.1;subst this;exact h4 n ex xs lo hi te hg (dE q1) q2.2 ev
     |_=>simp at f
    |_=>simp at f
   |_=>simp at h
  ·simp at h
 ·simp at h
end
end Go.FG
namespace Go.FG
def jV(D:aE (aN×Obj)):aE (aN×eW):=D.map λd=>(c6 d.1,.o d.2)
def tX(D:aE (aN×Obj))(m:aN):Prop:=∃x,(m,x)∈D
theorem WI:∀(D:aE (aN×Obj)) (σ:St),(∀m,(wr σ (jV D) (c6 m)=σ (c6 m)/\¬tX D m)\/∃x,(m,x)∈D/\wr σ (jV D) (c6 m)=.o x)/\∀m,slot (wr σ (jV D)) m=slot σ m:=by
 intro D;induction D with
 |nil=>intro σ;exact⟨λm=>.inl ⟨rfl,λ⟨x,r⟩=>by cases r⟩,λm=>rfl⟩
 |cons d D ih=>
  intro σ;obtain⟨n,x⟩:=d;obtain⟨j,k⟩:=ih (ox σ (c6 n) (.o x));refine⟨λm=> ?_,λm=> ?_⟩
  ·show(wr (ox σ (c6 n) (.o x)) (jV D) (c6 m)=_/\_)\/∃y,_/\wr (ox σ (c6 n) (.o x)) (jV D) (c6 m)=_;rcases j m with ⟨h,i⟩|⟨y,h,i⟩
   ·rw[oc]at h;by_cases hm:m=n
    ·subst hm;exact .inr ⟨x,by simp,by rw[h,bm rfl]⟩
    ·refine .inl ⟨by rw[h,bh hm],λ⟨y,f⟩=> ?_⟩;rcases cm.1 f with f|f
     ·cases f;exact hm rfl
     ·exact i ⟨y,f⟩
   ·exact .inr ⟨y,cu _ h,i⟩
  ·show slot (wr (ox σ (c6 n) (.o x)) (jV D)) m=_;rw[k,iu]
section
variable {P:de} {E:fW} {σ:St} {a:Act} {w:cB} {c:gn} {o:gK} {nm:aN} {e:sj}
theorem GR(u:Ok E σ w c)(V:e6 E σ a w c)(hd:∀d,o.dst=ai d->d<a.tmps.size)
  (hA:ji σ c c')
  (R:∀n x,(n,x)∈D->ph E w' c' n x)
  (H:∀n x b,(n,x)∈D->fu c' n x b->(jM (tX D) σ c b\/w.heap.size<=b)/\¬c'.K b)
  (X:∀n x n' z b,(n,x)∈D->(n',z)∈D->fu c' n x b->fu c' n' z b->n=n')
  (M:∀n xs,(n,Obj.box xs)∈D->∀a∈xs,∀m∈bL a,σ (c6 m)≠ .jw\/tX D m)
  (hK:∀b,c.K b->c'.K b) (A:∀b,c'.K b->c.K b\/jM (tX D) σ c b\/w.heap.size<=b) (t:∀b,c'.K b->b<w'.heap.size)
  (hW:∀b,b<w.heap.size->¬jM (tX D) σ c b->w'.heap[b]? =w.heap[b]?) (h3:w.heap.size<=w'.heap.size) (S:w'.os=w.os) (h4:w'.tape=w.tape) (U:w'.output=w.output)
  (Y:iM E w' c' s v) (N:∀n∈cF s,σ (c6 n)≠ .jw\/tX D n):
  Ok E (wr σ (jV D++dw o s)) w' c'/\e6 E (wr σ (jV D++dw o s)) (a.put o.dst v) w' c'/\Grow σ c w (wr σ (jV D++dw o s)) c' w':=by
 rw[NI];obtain⟨d1,d2⟩:=WI D σ;let σ1:=wr σ (jV D);obtain⟨s1,s2,s3⟩:=pC σ1 o s;have key:∀m,(wr σ1 (dw o s) (c6 m)=σ (c6 m)/\¬tX D m)\/∃x,(m,x)∈D/\wr σ1 (dw o s) (c6 m)=.o x:=λm=>by rw[s3];exact d1 m
 have j:∀m,(σ (c6 m)≠ .jw\/tX D m)->wr σ1 (dw o s) (c6 m)≠ .jw:=by
  intro m hm;rcases key m with ⟨r,k⟩|⟨x,_,k⟩
  ·rw[r];exact hm.resolve_right k
  ·rw[k];simp
 have get:∀m x,tX D m->wr σ1 (dw o s) (c6 m)=.o x->(m,x)∈D:=by
  intro m x hm hx;rcases key m with ⟨_,k⟩|⟨y,r,k⟩
  ·exact cJ hm k
  ·rw[k]at hx;cases hx;exact r
 have I:=u.change (σ':=wr σ1 (dw o s)) (w':=w') (c':=c') (tX D) (λm hm=>(key m).elim (λh=>h.1) (λ⟨x,r,_⟩=>cJ ⟨x,r⟩ hm)) (λm hm=>j m (.inl hm)) hA hW h3 hK A t
  (λm x hm i=>R m x (get m x hm i)) (λm x b hm i B=>H m x b (get m x hm i) B) (λm x m' z b hm O i Q B C=>X m x m' z b (get m x hm i) (get m' z O Q) B C)
  (λm xs hm i y hy n f=>j n (M m xs (get m _ hm i) y hy n f)) S h4 U
 refine⟨I.1,?_,I.2⟩
 refine V.change u I.2 hA (λm hm=>j m (.inl hm)) o v (λn f=>by rw[s1 n f];exact d2 n) (λd i=>⟨hd d i,?_,?_⟩)
 ·rw[s2 d i];exact Y
 ·rw[s2 d i];intro n f;exact j n (N n f)
theorem I5(t:Ok E σ w c)(z:e6 E σ a w c)(hd:∀d,o.dst=ai d->d<a.tmps.size)
  (M:ji σ c c')
  (r:∀n x,(n,x)∈D->ph E w' c' n x)
  (i:∀n x b,(n,x)∈D->fu c' n x b->(jM (tX D) σ c b\/w.heap.size<=b)/\¬c'.K b)
  (A:∀n x I N b,(n,x)∈D->(I,N)∈D->fu c' n x b->fu c' I N b->n=I)
  (j:∀n xs,(n,Obj.box xs)∈D->∀a∈xs,∀m∈bL a,σ (c6 m)≠ .jw\/tX D m)
  (U:∀b,c.K b->c'.K b) (h:∀b,c'.K b->c.K b\/jM (tX D) σ c b\/w.heap.size<=b) (f:∀b,c'.K b->b<w'.heap.size)
  (X:∀b,b<w.heap.size->¬jM (tX D) σ c b->w'.heap[b]? =w.heap[b]?) (C:w.heap.size<=w'.heap.size) (u:w'.os=w.os) (H:w'.tape=w.tape) (y:w'.output=w.output)
  (B:iM E w' c' s v) (k:∀n∈cF s,σ (c6 n)≠ .jw\/tX D n)
  (Y:(execOp a.eval o).run P w=.ok (.value v) w'):gw P E σ a w c o (jV D++dw o s):=by intro K Q V;obtain⟨O,R,S⟩:=GR t z hd M r i A j U h f X C u H y B k;exact wT Y (V v w' c' O R S M.w)
def AD(σ:St)(c:gn)(m:aA aN)(u:bP):CV->Prop
 |.l e d=>(m=aj/\d=[]/\u=.slice aj 0 0)\/∃nm,m=ai nm/\u=j5 (c.P nm)/\σ (c6 nm)=.o (.row e ao d)
 |x=>Sc u x
def Dh(L:aE aN):aE (aN×Obj):=L.map λn=>(n,.dead)
theorem Bb(L:aE aN):nR L=jV (Dh L):=by unfold nR jV Dh;rw[jk];rfl
theorem Ue(h:(G0 ao k x).val σ=ai (d,ws)):
  d.kd=k/\∃m:aA aN,ws=nR m.toList/\(∀nm,m=ai nm->∃ob,σ (c6 nm)=.o ob)/\∀u,ed E w c x u->AD σ c m u d:=by
 have pl:plain [k]=ao->d.kd=k/\∃m:aA aN,ws=nR m.toList/\(∀nm,m=ai nm->∃ob,σ (c6 nm)=.o ob)/\∀u,ed E w c x u->AD σ c m u d:=by
  intro hp;have j:d.kd=k/\ws=[]:=by
   cases k<;>cases x<;>simp[G0,plain]at h hp<;>first
    |(obtain⟨rfl,rfl⟩:=h;exact⟨rfl,rfl⟩)
    |(split at h<;>simp at h;rename_i hk;subst hk;obtain⟨rfl,rfl⟩:=h;exact⟨rfl,rfl⟩)
  refine⟨j.1,aj,j.2,λnm h=>(by cases h),λu f=> ?_⟩
  obtain⟨_,z,A,_⟩:=yq hp h f;cases d<;>first|exact z|simp[tE]at A
 cases k with
 |i=>exact pl rfl
 |b=>exact pl rfl
 |s=>exact pl rfl
 |o=>cases x<;>simp[G0]at h
 |l e=>
  cases x with
  |nl=>obtain⟨rfl,rfl⟩:=bU (aJ h);exact⟨rfl,aj,rfl,λnm h=>(by cases h),λu f=>.inl ⟨rfl,rfl,f⟩⟩
  |sh t xs=>simp[G0]at h
  |own n=>
   obtain⟨ob,hg,h⟩:=Rd.bind_some h;have hg:=dh hg;cases ob with
   |row t y xs=>obtain⟨r,h⟩:=cG h;obtain⟨rfl,rfl⟩:=bU (aJ h);simp only[aM]at r;have:=aX r.1;subst this;obtain rfl:=r.2;exact⟨rfl,ai n,rfl,λnm h=>(by cases h;exact⟨_,hg⟩),λu f=>.inr ⟨n,rfl,f,hg⟩⟩
   |fL=>simp at h
   |_=>simp at h
  |_=>simp[G0]at h
theorem P_:∀{ks:aE Ck} {xs:aE AV} {cs:aE CV} {ws:aE (aN×eW)} (h:(yr ao ks xs).val σ=ai (cs,ws)),cs.map CV.kd=ks/\xs.length=ks.length/\∃(L:aE aN) (M:aN->aA aN),ws=nR L/\
  (∀nm∈L,∃ob,σ (c6 nm)=.o ob)/\(∀j nm,M j=ai nm->nm∈L)/\(L.Nodup->∀i j nm,M i=ai nm->M j=ai nm->i=j)/\
  ∀(d:eF bP),fI E w c d xs->∀(q:aN) (x:CV),cs[q]? =ai x->∃u:bP,d[q]? =ai u/\AD σ c (M q) u x:=by
 intro ks;induction ks with
 |nil=>
  intro xs cs ws h;cases xs with
  |nil=>obtain⟨rfl,rfl⟩:=bU (aJ h);exact⟨rfl,rfl,[],λ_=>aj,rfl,λnm h=>(by cases h),λj nm h=>(by cases h),λ_ i j nm h=>(by cases h),λ_ _ q x hq=>by simp at hq⟩
  |cons=>simp[yr]at h
 |cons k ks ih=>
  intro xs cs ws h;cases xs with
  |nil=>simp[yr]at h
  |cons x xs=>
   obtain⟨⟨cv,w1⟩,N,h⟩:=Rd.bind_some h;obtain⟨⟨cr,w2⟩,O,h⟩:=Rd.bind_some h;obtain⟨rfl,rfl⟩:=bU (aJ h);obtain⟨H,m,rfl,I,K⟩:=Ue (E:=E) (w:=w) (c:=c) N;obtain⟨S,U,L,M,rfl,V,B,X,Y⟩:=ih O;refine⟨by simp[H,S],by simp[U],m.toList++L,λj=>match j with|0=>m|j+1=>M j,by simp[nR],?_,?_,?_,?_⟩
   ·intro nm t;rcases bc.1 t with h|h
    ·exact I nm (by simpa using h)
    ·exact V nm h
   ·intro j nm f;cases j with
    |zero=>exact bY _ (by simpa using f)
    |succ j=>exact bS _ (B j nm f)
   ·intro s i j nm hi f;obtain⟨n1,n2,C⟩:=ej.1 s;cases i with
    |zero=>
     cases j with
     |zero=>rfl
     |succ j=>exact cJ rfl (C nm (by simpa using hi) nm (B j nm f))
    |succ i=>
     cases j with
     |zero=>exact cJ rfl (C nm (by simpa using f) nm (B i nm hi))
     |succ j=>rw[X n2 i j nm hi f]
   ·intro d z q y hq;cases q with
    |zero=>cases hq;obtain⟨u,r,Q⟩:=z.2 0 x rfl;exact⟨u,r,K u Q⟩
    |succ q=>
     have A:fI E w c (d.extract 1 d.size) xs:=by
      refine⟨by simp;have:=z.1;simp at this;omega,λj b f=> ?_⟩
      obtain⟨u,r,R⟩:=z.2 (j+1) b f;refine⟨u,?_,R⟩
      have:=(dr.1 r).1;rw[dS,bm (by omega),iL];exact r
     obtain⟨u,r1,r2⟩:=Y _ A q y hq;refine⟨u,?_,r2⟩
     rw[dS]at r1;split at r1
     ·rw[iL];exact r1
     ·cases r1
theorem IP(r:Ok E σ w c)(h:(G0 aq k x).val σ=ai (j,ws)):j.kd=k/\ws=[]/\∀u,ed E w c x u->Holds E w c.K u j:=by
 have pl:plain [k]=ao->j.kd=k/\ws=[]/\∀u,ed E w c x u->Holds E w c.K u j:=by
  intro hp;have m:j.kd=k/\ws=[]:=by
   cases k<;>cases x<;>simp[G0,plain]at h hp<;>first
    |(obtain⟨rfl,rfl⟩:=h;exact⟨rfl,rfl⟩)
    |(split at h<;>simp at h;rename_i hk;subst hk;obtain⟨rfl,rfl⟩:=h;exact⟨rfl,rfl⟩)
  refine⟨m.1,m.2,λu d=> ?_⟩
  obtain⟨_,z,A,_⟩:=yq hp h d;exact jK A z
 cases k with
 |i=>exact pl rfl
 |b=>exact pl rfl
 |s=>exact pl rfl
 |o=>cases x<;>simp[G0]at h
 |l e=>
  cases x with
  |nl=>obtain⟨rfl,rfl⟩:=bU (aJ h);exact⟨rfl,rfl,λu d=>by rw[show u=_ from d];exact .nl _ _ _⟩
  |sh t xs=>obtain⟨f,h⟩:=cG h;obtain⟨rfl,rfl⟩:=bU (aJ h);simp only[aM]at f;have:=aX f.1;subst this;exact⟨rfl,rfl,λu d=>d⟩
  |own n=>
   obtain⟨ob,hg,h⟩:=Rd.bind_some h;have hg:=dh hg;cases ob with
   |row t y xs=>obtain⟨f,h⟩:=cG h;simp at h
   |fL t xs=>
    obtain⟨f,h⟩:=cG h;obtain⟨rfl,rfl⟩:=bU (aJ h);simp only[aM]at f;have:=aX f.1;subst this;refine⟨rfl,rfl,λu d=> ?_⟩
    have d:u=j5 (c.P n):=d;rw[d];exact(r.obj n _ hg).1
   |_=>simp at h
  |_=>simp[G0]at h
theorem G1(i:Ok E σ w c):∀{ks:aE Ck} {xs:aE AV} {cs:aE CV} {ws:aE (aN×eW)} (h:(yr aq ks xs).val σ=ai (cs,ws)),cs.map CV.kd=ks/\xs.length=ks.length/\ws=[]/\
  ∀(d:eF bP),fI E w c d xs->∀(q:aN) (x:CV),cs[q]? =ai x->∃u:bP,d[q]? =ai u/\Holds E w c.K u x:=by
 intro ks;induction ks with
 |nil=>
  intro xs cs ws h;cases xs with
  |nil=>obtain⟨rfl,rfl⟩:=bU (aJ h);exact⟨rfl,rfl,rfl,λ_ _ q x hq=>by simp at hq⟩
  |cons=>simp[yr]at h
 |cons k ks ih=>
  intro xs cs ws h;cases xs with
  |nil=>simp[yr]at h
  |cons x xs=>
   obtain⟨⟨R,w1⟩,A,h⟩:=Rd.bind_some h;obtain⟨⟨cr,S⟩,B,h⟩:=Rd.bind_some h;obtain⟨rfl,rfl⟩:=bU (aJ h);obtain⟨s,t,z⟩:=IP i A;obtain⟨M,N,O,Q⟩:=ih B;refine⟨by simp[s,M],by simp[N],by rw[t,O];rfl,λd m q y hq=> ?_⟩
   cases q with
   |zero=>cases hq;obtain⟨u,f,C⟩:=m.2 0 x rfl;exact⟨u,f,z u C⟩
   |succ q=>
    have r:fI E w c (d.extract 1 d.size) xs:=by
     refine⟨by simp;have:=m.1;simp at this;omega,λj b I=> ?_⟩
     obtain⟨u,f,H⟩:=m.2 (j+1) b I;refine⟨u,?_,H⟩
     have:=(dr.1 f).1;rw[dS,bm (by omega),iL];exact f
    obtain⟨u,r1,r2⟩:=Q _ r q y hq;refine⟨u,?_,r2⟩
    rw[dS]at r1;split at r1
    ·rw[iL];exact r1
    ·cases r1
end
end Go.FG
namespace Go.FG
section
variable {P:de} {E:fW} {σ:St} {a:Act} {w:cB} {c:gn} {o:gK} {nm:aN} {e:sj}
structure Inv (E:fW) (σ:St) (w:cB) (c:gn) (ex:aY) (ks:aE Ck) (gv:eF bP) (z:Row) (N:aN->aN->aA aN) (S:aE aN):Prop where
 size:gv.size=z.length*ks.length
 sh:∀y∈z,y.map CV.kd=ks
 inS:∀i j nm,N i j=ai nm->nm∈S
 inj:∀i j i' j' nm,N i j=ai nm->N i' j'=ai nm->i=i'/\j=j'
 cell:∀(i:aN) (y:aE CV) (j:aN) (x:CV),z[i]? =ai y->y[j]? =ai x->∃u:bP,gv[i*ks.length+j]? =ai u/\(if ex=ao then AD σ c (N i j) u x else Holds E w c.K u x)
theorem Inv.set{ex:aY}{ks:aE Ck}{m:eF bP}{z:Row}{N:aN->aN->aA aN}{S:aE aN}(h:Inv E σ w c ex ks m z N S){i0:aN}(hi:i0<z.length){cs:aE CV}{vs:eF bP}(hk:cs.map CV.kd=ks)(t:vs.size=ks.length)
  {M:aN->aA aN} {L:aE aN} (hM:∀j nm,M j=ai nm->nm∈L) (C:∀i j nm,M i=ai nm->M j=ai nm->i=j) (hd:∀nm∈L,nm∉S)
  (Y:∀(q:aN) (x:CV),cs[q]? =ai x->∃u:bP,vs[q]? =ai u/\(if ex=ao then AD σ c (M q) u x else Holds E w c.K u x)):
  Inv E σ w c ex ks (dN m (i0*ks.length) vs.toList) (z.set i0 cs) (λi j=>if i=i0 then M j else N i j) (S++L):=by
 have X:(i0+1)*ks.length<=z.length*ks.length:=b5 _ hi;rw[dc]at X;have R:i0*ks.length+vs.toList.length<=m.size:=by rw[h.size,show vs.toList.length=ks.length from t];omega
 refine⟨by rw[eM R,b9];exact h.size,?_,?_,?_,?_⟩
 ·intro y k;rcases jl k with k|k
  ·exact h.sh y k
  ·rw[k];exact hk
 ·intro i j nm f;replace f:(if i=i0 then M j else N i j)=ai nm:=f;split at f
  ·exact bS _ (hM j nm f)
  ·exact bY _ (h.inS i j nm f)
 ·intro i j B s nm f d;replace f:(if i=i0 then M j else N i j)=ai nm:=f;replace d:(if B=i0 then M s else N B s)=ai nm:=d;split at f
  ·rename_i U;split at d
   ·rename_i V;exact⟨U.trans V.symm,C j s nm f d⟩
   ·exact cJ (h.inS B s nm d) (hd nm (hM j nm f))
  ·split at d
   ·exact cJ (h.inS i j nm f) (hd nm (hM s nm d))
   ·exact h.inj i j B s nm f d
 ·intro i y j x k A;rw[NK]at k;rw[gb R,show vs.toList.length=ks.length from t];by_cases r:i0=i
  ·subst r;rw[bm rfl,bm hi]at k;cases k;have hj:j<ks.length:=by rw[<-hk,bJ];exact(aW.1 A).1
   obtain⟨u,Q,O⟩:=Y j x A;refine⟨u,?_,by simpa using O⟩
   rw[bm (by omega),cR,<-Q];congr 1;omega
  ·rw[bh r]at k;obtain⟨u,Q,O⟩:=h.cell i y j x k A;have hj:j<ks.length:=by rw[<-h.sh y (aU k),bJ];exact(aW.1 A).1
   refine⟨u,?_,by rw[show(if i=i0 then M j else N i j)=N i j from bh (λe=>r e.symm)];exact O⟩
   rw[bh ?_];exact Q;rcases NP r with I|H
   ·have:(i0+1)*ks.length<=i*ks.length:=b5 _ I;rw[dc]at this;omega
   ·have:(i+1)*ks.length<=i0*ks.length:=b5 _ H;rw[dc]at this;omega
theorem MH(V:Ok E σ w c)(Y:e6 E σ a w c){ex:aY}{ks:aE Ck}(h5:0<ks.length):∀(ps:aE (aN×eQ)) (z H:Row) (ws:aE (aN×eW)),(IM ex ks ps z).val σ=ai (H,ws)->
  H.length=z.length/\∃L,ws=nR L/\(∀nm∈L,∃ob,σ (c6 nm)=.o ob)/\∀d N S,(S++L).Nodup->Inv E σ w c ex ks d z N S->
   ∃f I,o6 (λi=>ai (i*ks.length,ks.length)) d (ps.map λ(i,x)=>(i,a.eval x))=ai f/\Inv E σ w c ex ks f H I (S++L):=by
 intro ps;induction ps with
 |nil=>intro z H ws h;obtain⟨rfl,rfl⟩:=bU (aJ h);exact⟨rfl,[],rfl,λnm h=>(by cases h),λd N S _ hi=>⟨d,N,rfl,by rw[cZ];exact hi⟩⟩
 |cons p r ih=>
  obtain⟨i0,x⟩:=p;intro z H ws h;obtain⟨v,O,h⟩:=Rd.bind_some h;obtain⟨X,h6⟩:=lN Y O;cases v with
  |v g ys=>
   obtain⟨Q,h⟩:=cG h;have Q:=cM Q;obtain⟨⟨cs,w1⟩,h3,h⟩:=Rd.bind_some h;obtain⟨⟨z1,w2⟩,h4,h⟩:=Rd.bind_some h;obtain⟨rfl,rfl⟩:=bU (aJ h);have s:=pO.cells X
   have G0:cs.map CV.kd=ks/\ys.length=ks.length/\∃(L:aE aN) (M:aN->aA aN),w1=nR L/\(∀nm∈L,∃ob,σ (c6 nm)=.o ob)/\(∀j nm,M j=ai nm->nm∈L)/\(L.Nodup->∀i j nm,M i=ai nm->M j=ai nm->i=j)/\
     ∀(q:aN) (x:CV),cs[q]? =ai x->∃u:bP,(a.eval ‹eQ›).cells[q]? =ai u/\(if ex=ao then AD σ c (M q) u x else Holds E w c.K u x):=by
    cases ex with
    |true=>obtain⟨A,B,L,M,q3,C,q5,q6,q7⟩:=P_ (E:=E) (w:=w) (c:=c) h3;exact⟨A,B,L,M,q3,C,q5,q6,λq x hq=>by simpa using q7 _ s q x hq⟩
    |false=>obtain⟨A,B,q3,C⟩:=G1 V h3;exact⟨A,B,[],λ_=>aj,q3,λnm h=>(by cases h),λj nm h=>(by cases h),λ_ i j nm h=>(by cases h),λq x hq=>by simpa using C _ s q x hq⟩
   obtain⟨A,B,L,M,rfl,C,q5,q6,q7⟩:=G0;obtain⟨i1,L2,rfl,i3,i4⟩:=ih _ _ _ h4;rw[b9]at i1;refine⟨i1,L++L2,by simp[nR],λnm R=>(bc.1 R).elim (C nm) (i3 nm),λd N S U k=> ?_⟩
   have m:((S++L)++L2).Nodup:=by rw[ca];exact U
   obtain⟨n1,n2,n3⟩:=ej.1 m;obtain⟨m1,m2,m3⟩:=ej.1 n1;have y:(a.eval x).cells.size=ks.length:=by rw[s.1,B]
   have t:=k.set (i0:=i0) (by omega) A y q5 (q6 m2) (λnm R hs=>m3 nm hs nm R rfl) q7;obtain⟨f,I,f1,f2⟩:=i4 _ _ _ m t;refine⟨f,I,?_,by rw[<-ca];exact f2⟩
   have O:(i0+1)*ks.length<=z.length*ks.length:=b5 _ Q;rw[dc,<-k.size]at O;simp only[e9,o6];rw[bh (by simp[y];omega)];have:=Dp (off:=i0*ks.length) (vs:=(a.eval x).cells) (cells:=d) (by omega);rw[<-f1];exact ic (λq=>o6 (λi=>ai (i*ks.length,ks.length)) q _) this
  |jS=>simp at h
  |un=>simp at h
theorem BX{t el n:aN}{d:TypeInfo}{z:bP}{ks:aE Ck}{ps:eF (aN×bP)}{cells:eF bP}(r:P.underlying t=ai (.slice el))(hi:P.info? el=ai d)(h:d.size=ks.length)(u:d.zero=ai z)(m:z.cells=(ks.map ie).toArray)
  (s:n*ks.length<=16777216) (k:o6 (λi=>ai (i*ks.length,ks.length)) (madeCells (ks.map ie).toArray (n*ks.length)) ps.toList=ai cells):
  (yV t n ps).run P w=.ok (.slice (ai (ad w.heap.size 0)) n n) (w.alloc (.cells cells el)):=by
 have f:¬(n*ks.length>2^24):=by omega
 by_cases h0:n*ks.length=0
 ·have j:(Array.range (n*ks.length)).map (λi=>(#[]:eF bP)[i%(#[]:eF bP).size]!)=madeCells (ks.map ie).toArray (n*ks.length):=by rw[h0];simp[madeCells,Array.range_zero']
  simp only[yV,cg,run_underlying r,bH,sizeOf,typeInfo,program,mI,hi,h,cU,h0,if_true,mD];rw[h0]at j k;rw[j,k];simp only[newRow,newObj,cg,mI,bH,cU];rfl
 ·have j:(Array.range (n*ks.length)).map (λi=>z.cells[i%z.cells.size]!)=madeCells (ks.map ie).toArray (n*ks.length):=by rw[m];rfl
  simp only[yV,cg,run_underlying r,bH,sizeOf,typeInfo,program,mI,hi,h,f,if_false,cU,h0,zeroValue,u,mD];rw[j,k];simp only[newRow,newObj,cg,mI,bH,cU];rfl
theorem ql:∀{l:aE aN},sV l=ao->l.Nodup
 |[],_=>.nil
 |n::r,h=>by
  simp only[sV,aM,dt]at h;refine j_.2 ⟨λhm=> ?_,ql h.2⟩;have:ma n r=true:=by
   have:=h.1;clear h;induction r with
   |nil=>cases hm
   |cons m r ih=>
    rcases cm.1 hm with rfl|hm
    ·simp[ma]
    ·simp only[ma,h_]at this⊢;rw[ih hm this.2];simp
  rw[this]at h;cases h.1
theorem q_{α β:Type}{f:α->β}:∀{l:aE α},(l.map f).Nodup->l.Nodup
 |[],_=>.nil
 |x::l,h=>by
  rw[e9,j_]at h;exact j_.2 ⟨λhm=>h.1 (cN.2 ⟨x,hm,rfl⟩),q_ h.2⟩
theorem Uo{ks:aE Ck}(f:flat E ks=ao){e:aN}(hm:Ck.l e∈ks):∃t,E.ty e=ai t/\plain t.ks=true:=by
 have h:=bz.1 f _ hm;replace h:(match E.ty e with|some ti=>plain ti.ks|none=>aq)=true:=h;cases d:E.ty e with
 |none=>rw[d]at h;cases h
 |some t=>rw[d]at h;exact⟨t,rfl,h⟩
theorem Nx(d:Ok E σ w c){n e:aN}{ex:aY}{xs:Row}(hg:σ (c6 n)=.o (.row e ex xs)){t:TI}(m:E.ty e=ai t)(hp:plain t.ks=ao):
  (c.P n).sz=t.ks.length/\(∀y∈xs,y.map CV.kd=t.ks)/\iO w (c.P n) xs (λ_ _ u x=>Sc u x):=by
 obtain⟨⟨A,r,s,h⟩,z,_⟩:=d.obj n _ hg;obtain rfl:t=A:=aJ (m.symm.trans r);refine⟨s,h,z.frame (λ_=>rfl) (λi j y x u hi k f=> ?_)⟩
 have hl:=gF hp (h y (aU hi)) k;split at f
 ·exact tU f hl
 ·exact oV f hl
theorem P5(f:Ok E σ w c)(A:flat E ks=ao)(d:G i j=match m with|some n=>c.P n|none=>Ji E ks i j)(z:ks[j]? =ai x.kd)(B:∀b,b<w.heap.size->(∃n,m=ai n/\b=(c.P n).blk)->w'.heap[b]? =w.heap[b]?)(h:AD σ c m u x):XC E w' G i j u x:=by
 cases x with
 |l e M=>
  obtain⟨t,r,hp⟩:=Uo A (aU z);rcases h with ⟨rfl,rfl,rfl⟩|⟨n,rfl,rfl,hg⟩
  ·refine⟨by rw[d];rfl,t,r,hp,?_,λy C=>(by cases C),⟨by rw[d];rfl,λ_=>⟨rfl,by rw[d];rfl⟩,λk=>by rw[d]at k;cases k⟩⟩
   rw[d];show(match ks[j]? with|some (.l e)=>(match E.ty e with|some t=>t.ks.length|none=>0)|_=>0)=_;rw[z];simp only[CV.kd,r]
  ·obtain⟨H,I,K⟩:=Nx f hg r hp;refine⟨by rw[d],t,r,hp,by rw[d];exact H,I,?_⟩
   rw[d];refine K.frame (λk=>B _ (Own.lt f ⟨n,_,hg,.inl ⟨k,rfl⟩⟩) ⟨n,rfl,rfl⟩) (λ_ _ _ _ _ _ _ h=>h)
 |i=>exact h
 |b=>exact h
 |s=>exact h
theorem CO(hE:dY P E)(A:Ok E σ w c)(hj:e6 E σ a w c)(hd:∀d,o.dst=ai d->d<a.tmps.size)(ho:o.op=.buildSlice t n ps)(h:(lE E nm o).val σ=ai e)(hc:e.cond=ao):gw P E σ a w c o e.ws:=by
 simp only[lE,ho]at h;obtain⟨ti,h1,h⟩:=Rd.bind_some h;have h1:=dE h1;split at h
 ·rename_i el hw x2;obtain⟨te,h2,h⟩:=Rd.bind_some h;have h2:=dE h2;obtain⟨V,h⟩:=cG h;obtain⟨h5,_,h⟩:=Rd.bind_some h;obtain⟨⟨xs,ws⟩,h3,h⟩:=Rd.bind_some h;obtain⟨u,h4,h⟩:=Rd.bind_some h;obtain⟨hf,xb⟩:=kc h4;obtain rfl:=aJ h;simp only[aM]at hc;obtain⟨R,U⟩:=hc;have R:=cM R;have hu:=oQ hE h1 hw x2;obtain⟨xc,hi,x6,_,Q,hz⟩:=hE.info el te h2;obtain⟨z,x9,xa,_⟩:=hz V;have h7:(h5&&flat E te.ks)=ao->flat E te.ks=true:=λh=>by simp only[aM]at h;exact h.2
  generalize (h5&&flat E te.ks)=ex at h3 h7⊢;obtain⟨ha,L,rfl,hL,he⟩:=MH (c:=c) A hj Q ps.toList _ _ _ h3;have U:L.Nodup:=by have:=ql U;unfold nR at this;rw[jk]at this;exact q_ this
  obtain⟨H,N,S,f⟩:=he (madeCells (te.ks.map ie).toArray (n*te.ks.length)) (λ_ _=>aj) [] (by simpa using U)
   ⟨by rw[size_madeCells];simp[aT],wU V n,λi j nm h=>(by cases h),λi j i' j' nm h=>(by cases h),λi y j x hy Y=>by
    obtain⟨x1,k,hk,rfl⟩:=tV hy Y;refine⟨ie k,lr x1 hk,?_⟩
    have h9:=bz.1 V k (aU hk);split
    ·cases k with
     |l e=>exact .inl ⟨rfl,rfl,rfl⟩
     |o=>cases h9
     |s=>exact⟨rfl,bA _⟩
     |_=>exact⟨rfl,trivial⟩
    ·exact JX h9⟩
  rw[eJ]at f;have hr:=BX (P:=P) (w:=w) (n:=n) (ps:=ps.map λ(i,x)=>(i,a.eval x)) hu hi x6 x9 xa R (by rw[zm];exact S);have ht:xs.length=n:=by rw[ha];simp[aT]
  let g:aN->aN->Pl:=λi j=>match N i j with|some m=>c.P m|none=>Ji E te.ks i j
  let c':gn:=⟨λm=>if m=nm then⟨aq,w.heap.size,0,n,n,te.ks.length⟩else c.P m,λm=>if m=nm then g else c.G m,c.K⟩
  have hP:c'.P nm=⟨aq,w.heap.size,0,n,n,te.ks.length⟩:=bm rfl;have hG:c'.G nm=g:=bm rfl;have hA:ji σ c c':=λm hm=>by
   have:m≠nm:=by rintro rfl;rcases hm with h|h;exact h hf;omega
   exact⟨bh this,bh this⟩
  have gN:∀i j,(g i j).nil=aq->∃m ob,N i j=ai m/\g i j=c.P m/\m∈L/\σ (c6 m)=.o ob:=by
   intro i j C;cases hm:N i j with
   |none=>simp only[g,hm]at C;cases C
   |some m=>obtain⟨ob,x5⟩:=hL m (f.inS i j m hm);exact⟨m,ob,rfl,by simp only[g,hm],f.inS i j m hm,x5⟩
  have lR:∀i j,ex=ao->fT xs i j->(g i j).nil=aq->∃m hv ys,N i j=ai m/\g i j=c.P m/\m∈L/\σ (c6 m)=.o (.row hv ao ys)/\(c.P m).nil=false:=by
   rintro i j r ⟨y,x,hy,Y,hl⟩ C;obtain⟨m,ob,q1,q2,q3,q4⟩:=gN i j C;obtain⟨u,_,hr⟩:=f.cell i y j x hy Y;rw[bm r,q1]at hr;cases x with
   |l e2 ys=>
    rcases hr with ⟨h,_⟩|⟨I,h,_,hg⟩
    ·cases h
    ·cases h;exact⟨m,e2,ys,q1,q2,q3,hg,by rw[<-q2];exact C⟩
   |i=>simp[tE]at hl
   |b=>simp[tE]at hl
   |s=>simp[tE]at hl
  have B:∀b,b<w.heap.size->(w.alloc (.cells H el)).heap[b]? =w.heap[b]? :=λb M=>heap_alloc_old w _ b M;have mem:∀m x,(m,x)∈Dh L++[(nm,Obj.row el ex xs)]->(m∈L/\x=.dead)\/(m=nm/\x=.row el ex xs):=by
   intro m x hm;rcases bc.1 hm with hm|hm
   ·unfold Dh at hm;obtain⟨q,hq,h⟩:=cN.1 hm;cases h;exact .inl ⟨hq,rfl⟩
   ·rw[a_]at hm;cases hm;exact .inr ⟨rfl,rfl⟩
  have x8:nR L++(c6 nm,eW.o (.row el ex xs))::dw o (.v aq [.own nm])=jV (Dh L++[(nm,Obj.row el ex xs)])++dw o (.v aq [.own nm]):=by rw[Bb];unfold jV;simp
  show gw P E σ a w c o (nR L++(c6 nm,eW.o (.row el ex xs))::dw o (.v aq [.own nm]));rw[x8];refine I5 A hj hd (c':=c') (w':=w.alloc (.cells H el)) (v:=.slice (ai (ad w.heap.size 0)) n n) hA ?_ ?_ ?_ ?_ (λ_ h=>h) (λ_ h=>.inl h) (λb M=>iB (A.lt b M) (by simp)) (λb M _=>B b M) (by simp) rfl rfl rfl ?_ ?_ ?_
  ·intro m x hm;rcases mem m x hm with ⟨_,rfl⟩|⟨rfl,rfl⟩
   ·trivial
   ·refine⟨⟨te,h2,by rw[hP],f.sh⟩,?_,λr=> ?_⟩
    ·rw[hP,hG];refine⟨ht.symm,λC=>(by cases C),λ_=>⟨H,nb.alloc w _ el,bT _,?_,?_,λi y j x hy Y=> ?_⟩⟩
     ·show n<=2^63-1;have:n*1<=n*te.ks.length:=Nat.mul_le_mul_left _ Q;omega
     ·rw[f.size,ht];simp
     ·obtain⟨u,x7,X⟩:=f.cell i y j x hy Y;refine⟨u,by simpa using x7,?_⟩
      split at X
      ·rename_i r;rw[bm r];refine P5 A (h7 r) rfl ?_ (λb M _=>B b M) X;rw[<-f.sh y (aU hy),bI,Y];rfl
      ·rename_i r;rw[bh r];exact X.frame (λb M=>B b (A.lt b M)) (λ_ h=>h)
    ·rw[hP,hG];refine⟨λi j hh C _=> ?_,λi j i' j' hh x0 C x4 h6=> ?_⟩
     ·obtain⟨I,e2,ys,_,q2,_,q4,q5⟩:=lR i j r hh C;have:(c.P I).blk<w.heap.size:=Own.lt A ⟨I,_,q4,.inl ⟨q5,rfl⟩⟩;rw[q2];show(c.P I).blk≠w.heap.size;omega
     ·obtain⟨m1,e1,y1,p1,p2,_,p4,p5⟩:=lR i j r hh C;obtain⟨m2,e2,y2,r1,r2,_,r4,r5⟩:=lR i' j' r x0 x4;rw[p2,r2]at h6;have:=A.sep m1 _ m2 _ _ p4 r4 (.inl ⟨p5,rfl⟩) (.inl ⟨r5,h6⟩);subst this;exact f.inj i j i' j' m1 p1 r1
  ·intro m x b hm O;rcases mem m x hm with ⟨_,rfl⟩|⟨rfl,rfl⟩
   ·exact O.elim
   ·rcases O with ⟨_,rfl⟩|⟨r,i,j,hh,C,rfl⟩
    ·rw[hP];exact⟨.inr (bT _),λhk=>by have:=A.lt _ hk;exact cJ this (bk _)⟩
    ·rw[hG]at C⊢;obtain⟨I,e2,ys,_,q2,q3,q4,q5⟩:=lR i j r hh C;rw[q2];refine⟨.inl ⟨I,_,⟨.dead,bY _ (cN.2 ⟨I,q3,rfl⟩)⟩,q4,.inl ⟨q5,rfl⟩⟩,A.kk I _ _ q4 (.inl ⟨q5,rfl⟩)⟩
  ·intro m x I x' b hm x3 O h8;rcases mem m x hm with ⟨_,rfl⟩|⟨rfl,rfl⟩
   ·exact O.elim
   ·rcases mem I x' x3 with ⟨_,rfl⟩|⟨rfl,rfl⟩
    ·exact h8.elim
    ·rfl
  ·intro m zs hm;rcases mem m _ hm with ⟨_,h⟩|⟨_,h⟩<;>cases h
  ·show _=j5 (c'.P nm);rw[hP];rfl
  ·intro m hm;have:m=nm:=by simpa [cF,bL]using hm
   subst this;exact .inr ⟨_,bS _ (a_.2 rfl)⟩
  ·unfold execOp;rw[ho];exact iI hr
 ·simp at h
end
end Go.FG
namespace Go.FG
section
variable {P:de}
def lC(f:TypeId)(size:aN)(base:aA Addr)(sLen sCap:aN)(s x:bP)(aT:aY)(n:aN)(d:Sem (eF bP)):Sem bP:=
 if sLen+n<=sCap then do
  let new<-d
  if let ai a:=base then storeCells (a.add (sLen*size)) new.toList
  pure (.slice base (sLen+n) sCap)
 else do
  if((sLen+n:aN):ay)>ak.max/\(aT\/(<-typeInfo f).bytes=0)then runtimePanic (.error "growslice: len out of range")
  if Gg (sLen+n) sCap*(<-typeInfo f).bytes>2^48 then(if aT then runtimePanic (.error "growslice: len out of range")else do
   if !(<-Builtin.mayShare size sLen n base x)then mark .noRoom
   unsupported (.resourceLimit "append: a slice or a string whose bytes no memory bears"))
  let h<-choose (.appendCap (sLen+n) sCap f)
  askRoom (h*(<-typeInfo f).bytes)
  let old<-e7 size sLen s
  let new<-d
  let rest:=fC (<-zeroValue f).cells (h-(sLen+n))
  pure (.slice (ai (<-newRow f (old++new++rest))) (sLen+n) h)
theorem yI(f:P.underlying t=ai (.slice el))(hi:P.info? el=ai inf)(hd:(∃d,P.underlying u=ai (.slice d))\/P.underlying u=ai .string)
  (hl:(o5 x).run P w=.ok m w):
  (gW #[t,u] ty #[.slice base sLen sCap,x]).run P w=(lC el inf.size base sLen sCap (.slice base sLen sCap) x aq m (e7 inf.size m x)).run P w:=by
 have hs:(sizeOf el).run P w=.ok inf.size w:=by simp[sizeOf,typeInfo,hi]
 rcases hd with ⟨d,hd⟩|hd<;>
  (simp only[gW,gP,rQ,dD,cg,run_underlying f,run_underlying hd,bH,hs,cU,hl,db,if_false,bG,if_true,false_or,mD]
   unfold lC
   simp only[mD,cg,db,if_false,false_or,cU]
   try rfl)
theorem BV(s:P.underlying t=ai (.slice el))(hi:P.info? el=ai d)(hd:P.underlying u=ai (.int k))
  (z:x=.int k' (m:ay)) (A:m<=9223372036854775807) (j:m*d.bytes<=140737488355328):
  (gW #[t,u] ty #[.slice base sLen sCap,x]).run P w=(lC el d.size base sLen sCap (.slice base sLen sCap) x ao m (if m*d.size=0 then pure #[]else do pure (fC (<-zeroValue el).cells m))).run P w:=by
 have hs:(sizeOf el).run P w=.ok d.size w:=by simp[sizeOf,typeInfo,hi]
 have f:∀W,(typeInfo el).run P W=.ok d W:=λW=>by simp[typeInfo,hi]
 have y:ak.wrap (m:ay)=m:=by rw[pG];omega
 have h:¬((m:ay)<0):=by omega
 have i:¬((m:ay)*(d.bytes:ay)>2^48):=by
  have a2:((m*d.bytes:aN):ay)<=140737488355328:=by generalize m*d.bytes=q at j;omega
  rw[TN]at a2;generalize (m:ay)*(d.bytes:ay)=q at a2;have:(2:ay)^48=281474976710656:=by decide
  omega
 subst z;have r:(asInt (.int k' (m:ay))).run P w=.ok (m:ay) w:=by simp[asInt,asIntOf]
 simp only[gW,gP,rQ,dD,cg,run_underlying s,run_underlying hd,bH,hs,f,r,y,h,i,cU,if_false,aZ,db,if_true,mD,dG];unfold lC;simp only[mD,cg,if_true,true_or,and_true,cU,f,bH];try rfl
theorem CU(f:app.run P w=.ok news.toArray w)(h:sLen+m<=sCap)(d:(storeCells (a.add (sLen*size)) news).run P w=.ok () w'):
  (lC el size (ai a) sLen sCap s x zs m app).run P w=.ok (.slice (ai a) (sLen+m) sCap) w':=by unfold lC;rw[bm h];simp only[cg,f,bH,d,cU]
theorem CT{w:cB}{el size sCap:aN}{s x:bP}{zs:aY}{d:Sem (eF bP)}{f:aE bP}(h:d.run P w=.ok f.toArray w):
  (lC el size aj 0 sCap s x zs 0 d).run P w=.ok (.slice aj 0 sCap) w:=by unfold lC;rw[bm (bA _)];simp only[cg,h,bH,cU]
theorem CS{w:cB}{el size sLen sCap m:aN}{base:aA Addr}{s x:bP}{zs:aY}{j:Sem (eF bP)}{i f:aE bP}{d:TypeInfo}{z:bP}(hi:P.info? el=ai d)(M:d.zero=ai z)
  (h:¬sLen+m<=sCap) (C:sLen+m<=9223372036854775807) (t:(sLen+m)*d.bytes<=140737488355328)
  (I:(e7 size sLen s).run P w.drew=.ok i.toArray w.drew) (H:j.run P w.drew=.ok f.toArray w.drew):
  (lC el size base sLen sCap s x zs m j).run P w=.ok (.slice (ai (ad w.heap.size 0)) (sLen+m) (grownCap w (sLen+m) sCap el))
   (w.drew.alloc (.cells (i.toArray++f.toArray++fC z.cells (grownCap w (sLen+m) sCap el-(sLen+m))) el)):=by
 have K:∀W,(typeInfo el).run P W=.ok d W:=λW=>by simp[typeInfo,hi]
 have y:∀W,(zeroValue el).run P W=.ok z W:=λW=>by simp[zeroValue,typeInfo,hi,M]
 have A:¬(((sLen+m:aN):ay)>ak.max/\(zs=ao\/d.bytes=0)):=by
  have:ak.max=9223372036854775807:=by decide
  rintro ⟨h,_⟩;omega
 have B:¬(Gg (sLen+m) sCap*d.bytes>2^48):=by
  have:=growslice_fits (need:=sLen+m) (old:=sCap) (bytes:=d.bytes) (by omega) t;have e:2^48=281474976710656:=by decide
  omega
 have u:(choose (.appendCap (sLen+m) sCap el)).run P w=.ok (grownCap w (sLen+m) sCap el) w.drew:=by rw[run_choose_drew];rfl
 have k:∀n W,(askRoom n).run P W=.ok () W:=λn W=>by simp only[askRoom];split<;>simp
 have r:∀cs,(newRow el cs).run P w.drew=.ok (ad w.heap.size 0) (w.drew.alloc (.cells cs el)):=λcs=>by simp only[newRow,newObj,cg,mI,bH,cU];rfl
 unfold lC;rw[bh h];simp only[cg,K,bH,A,B,if_false,u,k,I,H,y,r,cU,mD]
structure App (P:de) (w:cB) (u:aN) (x:bP) (z:eF bP) (sz m:aN) (news:aE bP):Prop where
 h:(((∃e',P.underlying u=ai (.slice e'))\/P.underlying u=ai .string)/\(o5 x).run P w=.ok m w/\(e7 sz m x).run P w=.ok news.toArray w/\(e7 sz m x).run P w.drew=.ok news.toArray w.drew)\/
  ((∃k,P.underlying u=ai (.int k))/\(∃k',x=.int k' (m:ay))/\news=(fC z m).toList)
 len:news.length=m*sz
 one:∀v∈news,v.oneCell'=ao
structure aap (w w':cB) (p p':Pl) (m:aN) (news:aE bP):Prop where
 n:p'.n=p.n+m
 sz:p'.sz=p.sz
 nil:p'.nil=ao->p'.cap=0/\p.n=0/\m=0
 mem:p'.nil=aq->∃nU,nb w' p'.blk nU/\p'.n<=p'.cap/\p'.cap<=maxLen/\p'.off+p'.cap*p'.sz<=nU.size/\
  (∀k u,k<p.n*p.sz->w.cell? (ad p.blk (p.off+k))=ai u->nU[p'.off+k]? =ai u)/\(∀k,k<m*p.sz->nU[p'.off+p.n*p.sz+k]? =news[k]?)
 blk:p'.nil=aq->(p.nil=aq/\p'.blk=p.blk)\/p'.blk=w.heap.size
 old:∀b,b<w.heap.size->(p'.nil=aq->b≠p'.blk)->w'.heap[b]? =w.heap[b]?
 size:w.heap.size<=w'.heap.size
 os:w'.os=w.os
 tape:w'.tape=w.tape
 output:w'.output=w.output
theorem s9(hu:P.underlying t=ai (.slice el))(hi:P.info? el=ai inf)(hz:inf.zero=ai z)(K:z.cells.size=p.sz)(Y:inf.size=p.sz)
  (V:p.nil=ao->p.n=0) (U:p.nil=aq->∃f,nb w p.blk f/\p.n<=p.cap/\p.cap<=maxLen/\p.off+p.cap*p.sz<=f.size)
  (O:App P w u x z.cells p.sz m news) (h1:(p.n+m)*inf.bytes<=140737488355328) (h2:p.n+m<=9223372036854775807):
  ∃p' w',(gW #[t,u] ty #[j5 p,x]).run P w=.ok (j5 p') w'/\aap w w' p p' m news:=by
 have h8:m*inf.bytes<=140737488355328:=cf (b5 _ (by omega)) h1;have h3:∀W,(zeroValue el).run P W=.ok z W:=λW=>by simp[zeroValue,typeInfo,hi,hz]
 have h9:p.n+m<=maxLen:=by simp only[maxLen];omega
 have tail:∀(base:aA Addr) (sLen sCap:aN),∃(zs:aY) (i:Sem (eF bP)),(gW #[t,u] ty #[.slice base sLen sCap,x]).run P w=(lC el p.sz base sLen sCap (.slice base sLen sCap) x zs m i).run P w/\
   i.run P w=.ok news.toArray w/\i.run P w.drew=.ok news.toArray w.drew:=by
  intro base sLen sCap
  rcases O.h with ⟨hd,hl,hf,h6⟩|⟨⟨k,hk⟩,⟨k',ht⟩,C⟩
  ·have:=yI (P:=P) (w:=w) (ty:=ty) hu hi hd (base:=base) (sLen:=sLen) (sCap:=sCap) hl;rw[Y]at this;exact⟨_,_,this,hf,h6⟩
  ·have:=BV (P:=P) (w:=w) (ty:=ty) hu hi hk (base:=base) (sLen:=sLen) (sCap:=sCap) ht (by omega) h8;rw[Y]at this;refine⟨_,_,this,?_,?_⟩
   ·rw[C];split
    ·rename_i h0;have:fC z.cells m= #[]:=zl (by rw[size_zeroCells,K,h0]);rw[this];rfl
    ·simp only[cg,h3,bH,cU,tu]
   ·rw[C];split
    ·rename_i h0;have:fC z.cells m= #[]:=zl (by rw[size_zeroCells,K,h0]);rw[this];rfl
    ·simp only[cg,h3,bH,cU,tu]
 have grow:∀(base:aA Addr) (sCap:aN) (d:aE bP) (zs:aY) (i:Sem (eF bP)),¬p.n+m<=sCap->d.length=p.n*p.sz->(∀k u,k<p.n*p.sz->w.cell? (ad p.blk (p.off+k))=ai u->d[k]? =ai u)->
   (e7 p.sz p.n (.slice base p.n sCap)).run P w.drew=.ok d.toArray w.drew->i.run P w.drew=.ok news.toArray w.drew->
   ∃p' w',(lC el p.sz base p.n sCap (.slice base p.n sCap) x zs m i).run P w=.ok (j5 p') w'/\aap w w' p p' m news:=by
  intro base sCap d zs i N y I hf Q
  have X:=CS (P:=P) (w:=w) (size:=p.sz) (zs:=zs) (x:=x) (base:=base) hi hz N h2 h1 hf Q
  refine⟨⟨aq,w.heap.size,0,grownCap w (p.n+m) sCap el,p.n+m,p.sz⟩,_,X,⟨rfl,rfl,λh=>(by cases h),λ_=> ?_,λ_=>.inr rfl,λb M _=>heap_alloc_old w.drew _ b M,by simp,rfl,rfl,rfl⟩⟩
  have h7:=grownCap_ge w (p.n+m) sCap el
  refine⟨_,⟨_,_,heap_alloc_new w.drew _,λq _=>by simp⟩,h7,grownCap_le_maxLen w _ _ _ h9,?_,λk u hk A=> ?_,λk hk=> ?_⟩
  ·simp only[Array.size_append,AQ,size_zeroCells,K,y,O.len,<-dc,bV];exact b5 _ (by omega)
  ·rw[bV,Ml,CW (by simpa [y]using hk),gP];exact I k u hk A
  ·rw[bV,Ml,Array.getElem?_append_right (by simp[y]),CW (by simp[y,O.len];omega),gP];congr 1;simp[y]
 cases hq:p.nil with
 |true=>
  have C:=V hq;rw[mo hq];obtain⟨zs,i,X,Q,H⟩:=tail aj 0 0;rw[X];by_cases hm:m=0
  ·subst hm;refine⟨⟨ao,0,0,0,0,p.sz⟩,w,CT Q,⟨by simp[C],rfl,λ_=>⟨rfl,C,rfl⟩,λh=>(by cases h),λh=>(by cases h),λ_ _ _=>rfl,bT _,rfl,rfl,rfl⟩⟩
  ·have:=grow aj 0 [] zs i (by omega) (by simp[C]) (λk u hk=>by rw[C]at hk;simp at hk) (by rw[C];exact run_firstCells_none _ _ _ _ _) H;rwa[C]at this
 |false=>
  rw[eB hq];obtain⟨f,M,he,h5,R⟩:=U hq;obtain⟨zs,i,X,Q,H⟩:=tail (ai (ad p.blk p.off)) p.n p.cap;rw[X];have hv:p.n*p.sz<=p.cap*p.sz:=b5 _ he;by_cases N:p.n+m<=p.cap
  ·have r:p.off+p.n*p.sz+news.length<=f.size:=by have:(p.n+m)*p.sz<=p.cap*p.sz:=b5 _ N;rw[dc]at this;rw[O.len];omega
   have ho:=mZ (P:=P) w M r O.one;have hh:=CU (P:=P) (s:=.slice (ai (ad p.blk p.off)) p.n p.cap) (x:=x) (el:=el) (size:=p.sz) (zs:=zs) Q N (by rw[Addr.mL];exact ho);refine⟨⟨aq,p.blk,p.off,p.cap,p.n+m,p.sz⟩,_,hh,⟨rfl,rfl,λh=>(by cases h),λ_=>⟨_,M.setRow (eM r),N,h5,by rw[eM r];exact R,λk u hk A=> ?_,λk hk=> ?_⟩,λ_=>.inl ⟨hq,rfl⟩,λb _ h4=>setRow_other w _ b _ (h4 rfl),by simp[iX],rfl,rfl,rfl⟩⟩
   ·show(dN f (p.off+p.n*p.sz) news)[p.off+k]? =ai u;rw[gb r,bh (by omega),<-M.cell];exact A
   ·show(dN f (p.off+p.n*p.sz) news)[p.off+p.n*p.sz+k]? =news[k]?;rw[gb r,bm (by rw[O.len];omega)];congr 1;omega
  ·have B:∀k,k<p.n*p.sz->w.cell? (ad p.blk (p.off+k))=f[p.off+k]? :=λk _=>M.cell _;let d:=(f.toList.drop p.off).take (p.n*p.sz);have y:d.length=p.n*p.sz:=by simp only[d,du,gz,dn];omega
   have I:∀k u,k<p.n*p.sz->w.cell? (ad p.blk (p.off+k))=ai u->d[k]? =ai u:=λk u hk A=>by rw[B k hk]at A;simp only[d,dP,bm hk,dO,cR,A]
   refine grow (ai (ad p.blk p.off)) p.cap d zs i N y I ?_ H;refine run_firstCells_some w.drew p.sz p.n _ _ _ d y (λj v hj=> ?_);have S:j<p.n*p.sz:=by rw[<-y];exact(aW.1 hj).1
   simp only[d,dP,bm S,dO,cR]at hj;rw[Addr.mL];have:=B j S;rw[hj]at this;simpa using this
end
end Go.FG
