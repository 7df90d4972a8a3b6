/- An evaluator for the part of the language that this program uses, proved sound over the model: states told as values and lists; what an evaluation tells, the call does. No condition. -/
import Derived.Calls
import Derived.Orders
import Derived.Below
import Derived.Laws.AppendOwn
import Derived.Laws.Slices
import Derived.Laws.StructEq
import Derived.Laws.Tables
import Derived.Laws.MakeOwn
import Derived.Laws.IdiomStrings
import Derived.Laws.BytesArg
import Derived.Laws.NewFold
import Derived.SizedLaws
import Derived.Carry
import Derived.ProofKit
import Derived.KernelRfl
import Derived.Laws.Strings
set_option linter.unusedVariables false
set_option linter.unusedSimpArgs false
set_option maxRecDepth 100000
open Array renaming getElem?_eq_some_iff->dF,getD_eq_getD_getElem?->dX,getElem?_setIfInBounds->mY,toArray_toList->r_,getElem?_toList->cC,ext'->qG,length_toList->dp,toList_map->xQ,getElem?_map->KJ,getElem?_extract->dL,range->Yq,eq_empty_of_size_eq_zero->xP,append_assoc->Iy,getElem?_append_left->A8
open BitVec renaming ofInt->bY
open Bool renaming false->ak,true->ai,false_eq_true->cU,and_eq_true->aF,not_eq_true'->dt,or_eq_false_iff->gL,not_false->bS,not_true->a9
open ByteArray renaming size_extract->vC,size_append->dn,empty->Ei,size->fH
open Go renaming IntKind->l_,World->bB,Value->a_,Operand->c5,Oper->eJ,Program->cL,TypeInfo->AZ
open Go.Act renaming put->Rc,eval->EA
open Go.Addr renaming add->Yy
open Go.Builtin renaming len_->ud,max2->BQ,min2->BR,clear_->nz,zeroCells->fE,nextslicecap->Ej,firstCells->fY,lenOf->sa,append_->kg
open Go.Instr renaming loadAt->vT,sureAddr->sN,storeAt->R3,alloc->Yz,fieldAt->R0,indexAt->R2,sliceBound->pE,sliceBounds->lQ,sliceAt->oZ,slice->YA,fill->n6,buildSlice->wY
open Go.IntKind renaming i64->ao,wrap_i64->oE
open Go.Op renaming bytesLess->bZ
open Go.Oper renaming wp->KN
open Go.Region renaming binds->lB
open Go.Result renaming andThen_ok->bn
open Go.Sem renaming run_bind->b8,run_pure->cB,run->nA,run_ite->lW
open Go.Value renaming slice->YB
open Go.World renaming cell?_of_block->Gw,setRow->jd
open Int renaming toNat_natCast->dJ,le_refl->Vt,natCast_mul->R4
open List renaming replicate->tB,mem_cons_of_mem->cM,mem_cons->cq,mem_cons_self->du,mem_flatMap->bA,mem_of_getElem?->aP,append_nil->dH,length_nil->iT,getElem?_toArray->gg,append_assoc->cf,getElem?_append_left->dB,getElem?_take->d_,getElem?_append_right->cW,getElem?_drop->dN,length_eq_one_iff->f_,getElem?_cons_succ->dy,getD->jm,getElem?_map->bz,getElem_mem->bD,mem_map->cO,all_eq_true->bj,range->cz,getElem?_range->tz,getElem?_eq_none->jQ,getElem?_eq_some_iff->aT,mem_of_mem_drop->kj,mem_of_mem_take->jR,getElem?_of_mem->bV,map_toArray->Bc,map_cons->eK,map_nil->zm,ext_getElem?->Ri,eq_nil_of_length_eq_zero->fa,mem_append->aZ,length_cons->cS,foldl_cons->Bb,map_map->kT,map_congr_left->Mi,size_toArray->Mj,length_map->bP,getD_eq_getElem?_getD->cD,getElem?_set->Mh,all_cons->rh,head?_drop->VP,length_take->dU,length_drop->eF,length_singleton->bQ,mem_append_left->bR,mem_append_right->bH,nodup_append->dV,length_set->c7,mem_or_eq_of_mem_set->ly,nodup_cons->jC,nil_append->fF,mem_singleton->aY,getElem?_cons_zero->qI
open List.cons renaming injEq->VO
open Nat renaming beq->bh,blt->o0,ble->eL,le_refl->cm,le_trans->cZ,lt_of_lt_of_le->gF,eq_of_beq_eq_true->aQ,add_zero->uf,add_assoc->sb,le_of_ble_eq_true->cu,add_mul->dK,zero_le->bm,mul_le_mul_right->cN,eq_zero_or_pos->xV,div_lt_iff_lt_mul->Ml,mod_lt->EE,mul_comm->KP,zero_add->bO,lt_or_gt_of_ne->Mm,add_comm->il,sub_self->YY,lt_irrefl->bk
open Option renaming some->ah,none->aj,map_some->fS,getD_some->vW
open Option.some renaming inj->aD,injEq->iM
open Prod.mk renaming inj->bN,injEq->iw
open UInt8 renaming ofNat->au
open _root_ renaming Nat->aE,Int->az,Bool->aW,ByteArray->aq,List->ax,Option->aA,Array->c_,if_pos->bu,if_neg->bJ,absurd->cw,cond_true->ay,cond_false->aC,decide_eq_true_eq->ba,of_decide_eq_true->cg,congrArg->kl
namespace Go.FG
inductive Ck where
 |i (k:l_)|b|s|l (e:aE)|o
inductive CV where
 |i (k:l_) (n:az)|b (x:aW)|s (x:aq)|l (e:aE) (xs:ax (ax CV))
abbrev aU:=ax (ax CV)
def CV.kd:CV->Ck
 | .i k _=> .i k| .b _=> .b| .s _=> .s| .l e _=> .l e
def bU:CV->az| .i _ n=>n|_=>0
def cvB:CV->aW| .b x=>x|_=>ak
def bM:CV->aq| .s x=>x|_=>⟨#[]⟩
def g9:CV->aU| .l _ xs=>xs|_=>[]
def ar(xs:aU)(i j:aE):CV:=(xs.getD i []).getD j (.b ak)
inductive AV where
 |i (k:l_) (n:az)|b (x:aW)|s (x:aq)
 |sh (e:aE) (xs:aU)
 |nl
 |own (nm:aE)
 |vw (nm lo hi:aE)
 |bp (nm j:aE)
 |rp (nm i j:aE)
 |sp (e:aE) (xs:aU) (i j:aE)
 |inn (nm i j:aE)
 |ip (nm i j i2 j2:aE)
 |iv (nm i j lo hi:aE)
 |fn (f:aE) (g7:ax (ax CV))
 |fp (xs:ax CV) (j:aE)
inductive SV where
 |v (agg:aW) (xs:ax AV)|jh (xs:ax (aW×ax AV))|un
inductive Obj where
 |box (xs:ax AV)|mU (xs:ax CV)|row (e:aE) (ex:aW) (xs:aU)|eZ (e:aE) (xs:aU)|dead
inductive dY where
 |v (x:SV)|o (x:Obj)|iU
def uh(n:aE):aW:=bh (n%1000) 999&&o0 n 900000000
abbrev St:=aE->dY
def nG(s:St)(k:aE)(c:dY):St:=λn=>bif bh n k then c else s n
def wr(s:St):ax (aE×dY)->St
 |[]=>s
 |(k,c)::r=>wr (nG s k c) r
def oW(n:aE):aE:=2*n
def cK(n:aE):aE:=2*n+1
inductive Rd (α:Type) where
 |ret (a:α)|fail|get (k:aE) (f:dY->Rd α)
def Rd.bind{α β:Type}:Rd α->(α->Rd β)->Rd β
 | .ret a,f=>f a
 | .fail,_=> .fail
 | .get k g,f=> .get k λc=>(g c).bind f
def Rd.run{α:Type}:Rd α->St->ax aE->aA (α×ax aE)
 | .ret a,_,l=>ah (a,l)
 | .fail,_,_=>aj
 | .get k f,s,l=>(f (s k)).run s (k::l)
structure TI where
 agg:aW
 ks:ax Ck
 bytes:aE
inductive AA where
 |i (k:l_) (n:az)|b (x:aW)|s (x:aq)|sh (e:aE) (xs:aU)|nl
 |ow (e:aE) (ex:aW) (xs:aU)|kp (xs:aU)|fn (f:aE) (g7:ax (ax CV))
inductive eC where
 |v (agg:aW) (xs:ax AA)|pt (xs:ax AA)|fb (xs:ax CV)
structure dz where
 rs:ax eC
 outs:ax (ax AA)
structure YX where
 f:bB->(aE->Prop)->Prop
 fr:∀{w w':bB} {K K':aE->Prop},f w K->(∀b,K b->w'.heap[b]? =w.heap[b]?)->(∀b,K b->K' b)->f w' K'
def YX.iU:YX:=⟨λ_ _=>True,λ_ _ _=>trivial⟩
structure Tab where
 ty:aE->aA TI
 fo:aE->aE->aA (aE×aE)
 eqs:ax aE
 Oe:aE->aE->aW:=λ_ _=>ak
 gp:YX:= .iU
inductive Om where
 |nat|own (e:aE)|sh (e:aE)
structure eP extends Tab where
 call:aE->ax eC->aA (aW×dz)
 om:aE->aE->Om
 mode:aE->aE->aW
 keep:aE->ax aE
 tk:aE->aW
instance:Coe eP Tab:=⟨eP.toTab⟩
structure qU where
 cond:aW
 ws:ax (aE×dY)
def lx(n:aE):ax aE->aW
 |[]=>ak|m::r=>bh n m||lx n r
def cst:a_->SV
 | .int k n=> .v ak [.i k n]| .bool x=> .v ak [.b x]| .string x=>bif eL x.size 4611686018427387904 then .v ak [.s x]else .un
 | .slice aj 0 0=> .v ak [.nl]
 |_=> .un
def DX(x:c5):Rd SV:=
 match x with
 | .tmp t=> .get (oW t) λ| .v x=> .ret x|_=> .ret .un
 | .const v=> .ret (cst v)
 | .func f=> .ret (.v ak [.fn f []])
 | .global _=> .fail
def iE(nm:aE):Rd Obj:= .get (cK nm) λ| .o x=> .ret x|_=> .fail
def fresh(nm:aE):Rd Unit:= .get (cK nm) λ| .iU=>bif eL nm 899999999 then .ret ()else .fail|_=> .fail
def ql(x:c5):Rd AV:=(DX x).bind λ| .v ak [a]=> .ret a|_=> .fail
def Ao(x:c5):Rd (l_×az):=(ql x).bind λ| .i k n=> .ret (k,n)|_=> .fail
def dw(o:eJ)(v:SV):ax (aE×dY):=match o.dst with|some d=>[(oW d, .v v)]|none=>[]
def val(o:eJ)(v:SV):Rd qU:= .ret ⟨ai,dw o v⟩
def wU(o:eJ)(v:AV):Rd qU:=val o (.v ak [v])
def Il(o:eJ)(c:aW)(v:AV):Rd qU:= .ret ⟨c,dw o (.v ak [v])⟩
def qs(E:eP)(t:aE):Rd TI:=match E.ty t with|some i=> .ret i|none=> .fail
def ov(E:eP)(t:aE):Rd Ck:=(qs E t).bind λti=>match ti.agg,ti.ks with|false,[k]=> .ret k|_,_=> .fail
def AW:Ck->AV
 | .i k=> .i k 0| .b=> .b ak| .s=> .s ⟨#[]⟩| .l _=> .nl| .o=> .nl
def wV:Ck->CV
 | .i k=> .i k 0| .b=> .b ak| .s=> .s ⟨#[]⟩| .l e=> .l e []| .o=> .b ak
def JW(ks:ax Ck):aW:=ks.all λ| .o=>ak|_=>ai
def dec:Ck->CV->AV
 | .i k,x=> .i k (bU x)| .b,x=> .b (cvB x)| .s,x=> .s (bM x)| .l e,x=> .sh e (g9 x)| .o,_=> .nl
def sU(xs:aU)(i:aE):aE->ax Ck->ax AV
 |_,[]=>[]
 |j,k::ks=>dec k (ar xs i j)::sU xs i (j+1) ks
def yt(nm:aE)(xs:aU)(i:aE):aE->ax Ck->ax AV
 |_,[]=>[]
 |j, .l _::ks=> .inn nm i j::yt nm xs i (j+1) ks
 |j,k::ks=>dec k (ar xs i j)::yt nm xs i (j+1) ks
def Ux:CV->AV
 | .i k n=> .i k n| .b x=> .b x| .s x=> .s x| .l e xs=> .sh e xs
def iH{α:Type}(xs:ax α)(j:aE)(ys:ax α):ax α:=xs.take j++ys++xs.drop (j+ys.length)
def eA(xs:aU)(i j:aE)(ys:ax CV):aU:=xs.set i (iH (xs.getD i []) j ys)
def auC(agg:aW)(xs:ax AV):SV:= .v agg xs
def dW(xs:aU)(lo hi:aE):aU:=(xs.drop lo).take (hi-lo)
def plain(ks:ax Ck):aW:=ks.all λ| .i _=>ai| .b=>ai| .s=>ai|_=>ak
def ckB:Ck->Ck->aW
 | .i a, .i b=>decide (a=b)| .b, .b=>ai| .s, .s=>ai| .l a, .l b=>bh a b| .o, .o=>ai|_,_=>ak
def oN:ax Ck->ax Ck->aW
 |[],[]=>ai|x::l,y::r=>ckB x y&&oN l r|_,_=>ak
def E6(ex:aW)(k:Ck)(a:AV):Rd (CV×ax (aE×dY)):=
 match k,a with
 | .i k, .i k' n=>if k=k' then .ret (.i k n,[])else .fail
 | .b, .b x=> .ret (.b x,[])
 | .s, .s x=> .ret (.s x,[])
 | .l e, .nl=> .ret (.l e [],[])
 | .l e, .sh e' xs=>bif bh e e'&& !ex then .ret (.l e xs,[])else .fail
 | .l e, .own nm=>(iE nm).bind λ
  | .row e' sr xs=>bif bh e e'&&sr then(bif ex then .ret (.l e xs,[(cK nm, .o .dead)])else .fail)else .fail
  | .eZ e' xs=>bif bh e e'&& !ex then .ret (.l e xs,[])else .fail
  |_=> .fail
 |_,_=> .fail
def wC(ex:aW):ax Ck->ax AV->Rd (ax CV×ax (aE×dY))
 |[],[]=> .ret ([],[])
 |k::ks,a::r=>(E6 ex k a).bind λ(c,w)=>(wC ex ks r).bind λ(cs,ws)=> .ret (c::cs,w++ws)
 |_,_=> .fail
def ada:ax AV->aW
 |[]=>ai
 | .sh _ _::_=>ak
 |_::r=>ada r
end Go.FG

namespace Go.FG
def Zf(op:BinOp)(k:l_)(a b:az):aA (aW×AV):=
 match op with
 | .add=>ah (ai, .i k (k.wrap (a+b)))
 | .sub=>ah (ai, .i k (k.wrap (a-b)))
 | .mul=>ah (ai, .i k (k.wrap (a*b)))
 | .quo=>ah (!(b==0), .i k (k.wrap (a.tdiv b)))
 | .rem=>ah (!(b==0), .i k (a.tmod b))
 | .and=>ah (ai, .i k (k.wrap (bY k.bits a&&&bY k.bits b).toNat))
 | .or=>ah (ai, .i k (k.wrap (bY k.bits a|||BitVec.ofInt k.bits b).toNat))
 | .xor=>ah (ai, .i k (k.wrap (bY k.bits a^^^bY k.bits b).toNat))
 | .eql=>ah (ai, .b (a==b))
 | .neq=>ah (ai, .b (a !=b))
 | .lss=>ah (ai, .b (decide (a<b)))
 | .leq=>ah (ai, .b (decide (a<=b)))
 | .gtr=>ah (ai, .b (decide (a>b)))
 | .geq=>ah (ai, .b (decide (a≥b)))
 |_=>aj
def Zh(op:BinOp)(a b:aq):aA (aW×AV):=
 match op with
 | .add=>ah (decide (a.size+b.size<=4611686018427387904), .s (a++b))
 | .eql=>ah (ai, .b (a.toList==b.toList))
 | .neq=>ah (ai, .b (!(a.toList==b.toList)))
 | .lss=>ah (ai, .b (bZ a.toList b.toList))
 | .leq=>ah (ai, .b (bZ a.toList b.toList||a.toList==b.toList))
 | .gtr=>ah (ai, .b (!(bZ a.toList b.toList||a.toList==b.toList)))
 | .geq=>ah (ai, .b (!(bZ a.toList b.toList)))
 |_=>aj
def SK:ax AV->ax AV->aA aW
 |[],[]=>ah ai
 | .i k a::l, .i k' b::r=>if k=k' then(match SK l r with|some t=>ah ((a==b)&&t)|none=>aj)else aj
 | .b a::l, .b b::r=>match SK l r with|some t=>ah ((a==b)&&t)|none=>aj
 | .s a::l, .s b::r=>match SK l r with|some t=>ah ((a.toList==b.toList)&&t)|none=>aj
 |_,_=>aj
def DO:AV->Ck
 | .i k _=> .i k| .b _=> .b| .s _=> .s|_=> .o
def G5(op:BinOp)(k:Ck):AV->AV->aA (aW×AV)
 | .i k a, .i k' b=>if k=k' then Zf op k a b else aj
 | .s a, .s b=>Zh op a b
 | .b a, .b b=>match op,k with| .eql, .b=>ah (ai, .b (a==b))| .neq, .b=>ah (ai, .b (!(a==b)))|_,_=>aj
 |_,_=>aj
def shV(op:BinOp):AV->AV->aA (aW×AV)
 | .i k a, .i _ b=>match op with
  | .shl=>ah (decide (0<=b), .i k (k.wrap (a*2^(min b.toNat k.bits))))
  | .shr=>ah (decide (0<=b), .i k (a.fdiv (2^(min b.toNat k.bits))))
  |_=>aj
 |_,_=>aj
def Lv:BinOp->aW| .shl=>ai| .shr=>ai|_=>ak
def isEq:BinOp->aW| .eql=>ai| .neq=>ai|_=>ak
def PI{α:Type}:aA α->Rd α|some a=> .ret a|none=> .fail
def Zg(E:eP)(t:aE)(op:BinOp)(x y:SV):Rd (aW×AV):=
 match x,y with
 | .v ak [a], .v ak [b]=>bif Lv op then PI (shV op a b)else(ov E t).bind λk=>PI (G5 op k a b)
 | .v ai xs, .v ai ys=>(qs E t).bind λti=>
   bif isEq op&&lx t E.eqs&&oN (xs.map DO) ti.ks&&oN (ys.map DO) ti.ks&&plain ti.ks then PI (match SK xs ys with|some r=>ah (ai,AV.b (match op with| .eql=>r|_=> !r))|none=>aj)else .fail
 |_,_=> .fail
def Ju:ax AV->ax (aE×ax AV)->ax AV
 |z,[]=>z
 |z,(j,ys)::r=>Ju (iH z j ys) r
def DZ(E:eP)(t:aE):ax (aE×c5)->Rd (ax (aE×ax AV))
 |[]=> .ret []
 |(f,x)::r=>(DX x).bind λ
  | .v _ ys=>match E.fo t f with
   |some (o,n)=>bif bh ys.length n then(DZ E t r).bind λl=> .ret ((o,ys)::l)else .fail
   |none=> .fail
  |_=> .fail
def lk(E:eP)(a:AV):Rd (aE×aU):=
 match a with
 | .sh e xs=> .ret (e,xs)
 | .own nm=>(iE nm).bind λ| .row e _ xs=> .ret (e,xs)| .eZ e xs=> .ret (e,xs)|_=> .fail
 | .vw nm lo hi=>(iE nm).bind λ| .row e _ xs=> .ret (e,dW xs lo hi)| .eZ e xs=> .ret (e,dW xs lo hi)|_=> .fail
 | .inn nm i j=>(iE nm).bind λ
  | .row e ai xs=>(qs E e).bind λti=>match ti.ks[j]? with|some (.l e2)=> .ret (e2,g9 (ar xs i j))|_=> .fail
  |_=> .fail
 |_=> .fail
def aaq(E:eP)(k:Ck)(a:AV):Rd az:=
 match k,a with
 | .s, .s x=> .ret x.size
 | .l _, .nl=> .ret 0
 | .l _, .vw nm lo hi=>(iE nm).bind λ| .row _ _ _=> .ret ((hi-lo:aE):az)| .eZ _ _=> .ret ((hi-lo:aE):az)|_=> .fail
 | .l _,a=>(lk E a).bind λ(_,xs)=> .ret xs.length
 |_,_=> .fail
def Hd(ex:aW)(ks:ax Ck):ax (aE×c5)->aU->Rd (aU×ax (aE×dY))
 |[],z=> .ret (z,[])
 |(i,x)::r,z=>(DX x).bind λ
  | .v _ ys=>bif eL (i+1) z.length then(wC ex ks ys).bind λ(cs,w)=>(Hd ex ks r (z.set i cs)).bind λ(z,ws)=> .ret (z,w++ws)else .fail
  |_=> .fail
def Jp:ax (aE×c5)->Rd aW
 |[]=> .ret ai
 |(_,x)::r=>(DX x).bind λ
  | .v _ ys=>(Jp r).bind λb=> .ret (ada ys&&b)
  |_=> .fail
def aN(ks:ax Ck)(n:aE):aU:=tB n (ks.map wV)
def bytesOf(xs:aU):aq:=⟨(xs.map λy=>au (bU (y.getD 0 (.b ak))).toNat).toArray⟩
def pw(s:aq):aU:=s.data.toList.map λb=>[.i .u8 (b.toNat:az)]
def u8s:ax Ck->aW|[.i .u8]=>ai|_=>ak
def flat(E:eP)(ks:ax Ck):aW:=ks.all λ
 | .l e=>match E.ty e with|some ti=>plain ti.ks|none=>ak
 |_=>ai
def cy(n:aE)(bytes:aE):aW:=decide (n*bytes<=140737488355328)&&decide (n<=9223372036854775807)
def qC(E:eP)(ti:TI)(p:AV):Rd (ax AV):=
 match p with
 | .bp nm j=>(iE nm).bind λ
  | .box xs=>bif eL (j+ti.ks.length) xs.length then .ret ((xs.drop j).take ti.ks.length)else .fail
  | .mU xs=>bif eL (j+ti.ks.length) xs.length then .ret (((xs.drop j).take ti.ks.length).map Ux)else .fail
  |_=> .fail
 | .fp xs j=>bif eL (j+ti.ks.length) xs.length then .ret (((xs.drop j).take ti.ks.length).map Ux)else .fail
 | .sp e xs i j=>(qs E e).bind λte=>bif oN ((te.ks.drop j).take ti.ks.length) ti.ks then .ret (sU xs i j ti.ks)else .fail
 | .rp nm i j=>(iE nm).bind λ
  | .row e ex xs=>(qs E e).bind λte=>bif oN ((te.ks.drop j).take ti.ks.length) ti.ks then(bif ex&&uh nm then(bif plain ti.ks then .ret (sU xs i j ti.ks)else .fail)else .ret (bif ex then yt nm xs i j ti.ks else sU xs i j ti.ks))else .fail
  | .eZ e xs=>(qs E e).bind λte=>bif oN ((te.ks.drop j).take ti.ks.length) ti.ks then .ret (sU xs i j ti.ks)else .fail
  |_=> .fail
 | .ip nm i j i2 j2=>(iE nm).bind λ
  | .row e ai xs=>(qs E e).bind λte=>match te.ks[j]? with
   |some (.l e2)=>(qs E e2).bind λt2=>bif oN ((t2.ks.drop j2).take ti.ks.length) ti.ks then .ret (sU (g9 (ar xs i j)) i2 j2 ti.ks)else .fail
   |_=> .fail
  |_=> .fail
 |_=> .fail
def Eb(E:eP)(p:AV)(ys:ax AV):Rd (ax (aE×dY)):=
 match p with
 | .bp nm j=>(iE nm).bind λ
  | .box xs=>bif eL (j+ys.length) xs.length then .ret [(cK nm, .o (.box (iH xs j ys)))]else .fail
  |_=> .fail
 | .rp nm i j=>(iE nm).bind λ
  | .row e ex xs=>(qs E e).bind λte=>bif plain ((te.ks.drop j).take ys.length)then(wC ak ((te.ks.drop j).take ys.length) ys).bind λ(cs,_)=> .ret [(cK nm, .o (.row e ex (eA xs i j cs)))]else .fail
  |_=> .fail
 | .ip nm i j i2 j2=>(iE nm).bind λ
  | .row e ai xs=>(qs E e).bind λte=>match te.ks[j]? with
   |some (.l e2)=>(qs E e2).bind λt2=>bif plain t2.ks then(wC ak ((t2.ks.drop j2).take ys.length) ys).bind λ(cs,_)=>
    .ret [(cK nm, .o (.row e ai (eA xs i j [.l e2 (eA (g9 (ar xs i j)) i2 j2 cs)])))]else .fail
   |_=> .fail
  |_=> .fail
 |_=> .fail
def FR:ax AV->aW
 |[]=>ai
 | .own _::_=>ak
 |_::r=>FR r
def wK:aE->ax AV->aA (aE×aE)
 |_,[]=>aj
 |q, .own n::r=>bif FR r then ah (q,n)else aj
 |q,_::r=>wK (q+1) r
def Br(e2 n2:aE)(zs:aU):ax Ck->ax AV->aA (ax CV)
 |[],[]=>ah []
 | .i k::ks, .i k' x::r=>if k=k' then(Br e2 n2 zs ks r).map (.i k x:: ·)else aj
 | .b::ks, .b x::r=>(Br e2 n2 zs ks r).map (.b x:: ·)
 | .s::ks, .s x::r=>(Br e2 n2 zs ks r).map (.s x:: ·)
 | .l e::ks, .own n::r=>bif bh e e2&&bh n n2 then(Br e2 n2 zs ks r).map (.l e2 zs:: ·)else aj
 |_,_=>aj
def Ea(E:eP)(n i j:aE)(ys:ax AV):Rd (ax (aE×dY)):=
 (iE n).bind λ
 | .row e ai xs=>(qs E e).bind λte=>match wK 0 ys with
  |some (q,n2)=>bif bh n n2 then .fail else(iE n2).bind λ
   | .row e2 ai zs=>(qs E e2).bind λt2=>bif plain t2.ks&&eL (j+ys.length) te.ks.length then(match Br e2 n2 zs ((te.ks.drop j).take ys.length) ys with
    |some cs=> .ret [(cK n, .o (.row e ai (eA xs i j cs))),(cK n2, .o .dead)]
    |none=> .fail)else .fail
   |_=> .fail
  |none=> .fail
 |_=> .fail
def Sy(E:eP)(n i j i2 j2 lo hi:aE):Rd (ax (aE×dY)):=
 (iE n).bind λ
 | .row e ai xs=>(qs E e).bind λte=>match te.ks[j]?,te.ks[j2]? with
  |some (.l e2),ah (.l e3)=>bif bh e2 e3 then .ret [(cK n, .o (.row e ak (eA xs i j [.l e2 (dW (g9 (ar xs i2 j2)) lo hi)])))]else .fail
  |_,_=> .fail
 |_=> .fail
def Ty:ax AV->aA (aE×aE×aE×aE×aE)
 |[.iv n i j lo hi]=>ah (n,i,j,lo,hi)
 |_=>aj
def QL(E:eP)(p:AV)(ys:ax AV):Rd (ax (aE×dY)):=
 match p with
 | .rp n i j=>bif uh n then Ea E n i j ys else(match Ty ys with
  |some (n2,i2,j2,lo,hi)=>bif bh n n2 then Sy E n i j i2 j2 lo hi else .fail
  |none=>Eb E (.rp n i j) ys)
 |p=>Eb E p ys
def N_(E:eP)(t:aE)(f:aE)(p:AV):Rd AV:=
 match E.fo t f with
 |none=> .fail
 |some (o,_)=>match p with
  | .bp nm j=> .ret (.bp nm (j+o))
  | .rp nm i j=> .ret (.rp nm i (j+o))
  | .sp e xs i j=> .ret (.sp e xs i (j+o))
  | .ip nm i j i2 j2=> .ret (.ip nm i j i2 (j2+o))
  | .fp xs j=> .ret (.fp xs (j+o))
  |_=> .fail
def OI(E:eP)(e:aE)(x:AV)(n:az):Rd (aW×AV):=
 match x with
 | .sh e' xs=>bif bh e e' then .ret (decide (0<=n)&&decide (n<(xs.length:az)), .sp e' xs n.toNat 0)else .fail
 | .own nm=>(iE nm).bind λ
  | .row e' _ xs=>bif bh e e' then .ret (decide (0<=n)&&decide (n<(xs.length:az)), .rp nm n.toNat 0)else .fail
  | .eZ e' xs=>bif bh e e' then .ret (decide (0<=n)&&decide (n<(xs.length:az)), .rp nm n.toNat 0)else .fail
  |_=> .fail
 | .vw nm lo hi=>(iE nm).bind λ
  | .row e' _ xs=>bif bh e e' then .ret (decide (0<=n)&&decide (n<((hi-lo:aE):az)), .rp nm (lo+n.toNat) 0)else .fail
  | .eZ e' xs=>bif bh e e' then .ret (decide (0<=n)&&decide (n<((hi-lo:aE):az)), .rp nm (lo+n.toNat) 0)else .fail
  |_=> .fail
 | .inn nm i j=>(iE nm).bind λ
  | .row e1 ai xs=>(qs E e1).bind λte=>match te.ks[j]? with
   |some (.l e')=>bif bh e e' then .ret (decide (0<=n)&&decide (n<((g9 (ar xs i j)).length:az)), .ip nm i j n.toNat 0)else .fail
   |_=> .fail
  |_=> .fail
 |_=> .fail
def lV(x:aA c5)(d:az):Rd az:=
 match x with
 |none=> .ret d
 |some x=>(Ao x).bind λ(_,n)=> .ret n
def iy(l h n:az):aW:=decide (0<=l)&&decide (l<=h)&&decide (h<=n)
def Ql(e:aE)(x:AV)(lo hi:aA c5):Rd (aW×AV):=
 match x with
 | .sh e' xs=>bif bh e e' then(lV lo 0).bind λl=>(lV hi xs.length).bind λh=> .ret (iy l h xs.length, .sh e' (dW xs l.toNat h.toNat))else .fail
 | .own nm=>(iE nm).bind λ
  | .row e' _ xs=>bif bh e e' then(lV lo 0).bind λl=>(lV hi xs.length).bind λh=> .ret (iy l h xs.length, .vw nm l.toNat h.toNat)else .fail
  | .eZ e' xs=>bif bh e e' then(lV lo 0).bind λl=>(lV hi xs.length).bind λh=> .ret (iy l h xs.length, .vw nm l.toNat h.toNat)else .fail
  |_=> .fail
 | .vw nm a b=>(iE nm).bind λ
  | .row e' _ _=>bif bh e e' then(lV lo 0).bind λl=>(lV hi ((b-a:aE):az)).bind λh=> .ret (iy l h ((b-a:aE):az), .vw nm (a+l.toNat) (a+h.toNat))else .fail
  | .eZ e' _=>bif bh e e' then(lV lo 0).bind λl=>(lV hi ((b-a:aE):az)).bind λh=> .ret (iy l h ((b-a:aE):az), .vw nm (a+l.toNat) (a+h.toNat))else .fail
  |_=> .fail
 | .nl=>(lV lo 0).bind λl=>(lV hi 0).bind λh=> .ret (iy l h 0, .nl)
 |_=> .fail
def aa5(E:eP)(e n i j:aE)(lo hi:aA c5):Rd (aW×AV):=
 (iE n).bind λ
 | .row e1 ai xs=>(qs E e1).bind λte=>match te.ks[j]? with
  |some (.l e')=>bif bh e e' then(lV lo 0).bind λl=>(lV hi (g9 (ar xs i j)).length).bind λh=> .ret (iy l h (g9 (ar xs i j)).length, .iv n i j l.toNat h.toNat)else .fail
  |_=> .fail
 |_=> .fail
def Qm(E:eP)(e:aE)(x:AV)(lo hi:aA c5):Rd (aW×AV):=
 match x with
 | .inn n i j=>aa5 E e n i j lo hi
 |x=>Ql e x lo hi
def H_(E:eP)(k:Ck)(x:AV)(lo hi:aA c5):Rd (aW×AV):=
 match k,x with
 | .s, .s a=>(lV lo 0).bind λl=>(lV hi a.size).bind λh=> .ret (iy l h a.size, .s (a.extract l.toNat h.toNat))
 | .l e,x=>(qs E e).bind λ_=>Qm E e x lo hi
 |_,_=> .fail
def uE(e:aE)(s:AV):Rd (aW×aU×ax aE):=
 match s with
 | .nl=> .ret (ai,[],[])
 | .own nm=>(iE nm).bind λ
  | .row e' ex xs=>bif bh e e' then .ret (ex,xs,[nm])else .fail
  |_=> .fail
 | .vw nm lo hi=>(iE nm).bind λ
  | .row e' ex xs=>bif bh e e' then .ret (ex,dW xs lo hi,[nm])else .fail
  |_=> .fail
 |_=> .fail
def O_(E:eP)(rN e:aE)(ks:ax Ck)(b:ax aE)(x:AV):Rd (aW×aU×ax (aE×dY)):=
 match x with
 | .s a=>bif u8s ks then .ret (ai,pw a,[])else .fail
 | .nl=> .ret (ai,[],[])
 | .sh e' xs=>bif bh e e' then .ret (plain ks,xs,[])else .fail
 | .own nm=>(iE nm).bind λ
  | .row e' ex xs=>bif bh e e' then
    (bif plain ks|| !ex then .ret (plain ks,xs,[])
    else bif lx nm b then .fail
    else bif E.tk rN then .ret (ak,xs,[(cK nm, .o (.eZ e xs))])else .ret (ai,xs,[(cK nm, .o .dead)]))else .fail
  | .eZ e' xs=>bif bh e e' then .ret (plain ks,xs,[])else .fail
  |_=> .fail
 | .vw nm lo hi=>(iE nm).bind λ
  | .row e' ex xs=>bif bh e e' then
    (bif plain ks|| !ex then .ret (plain ks,dW xs lo hi,[])
    else bif lx nm b then .fail
    else bif E.tk rN then .ret (ak,dW xs lo hi,[(cK nm, .o (.eZ e xs))])else .fail)else .fail
  | .eZ e' xs=>bif bh e e' then .ret (plain ks,dW xs lo hi,[])else .fail
  |_=> .fail
 | .inn nm i j=>bif plain ks then(lk E (.inn nm i j)).bind λ(e',xs)=>bif bh e e' then .ret (ai,xs,[])else .fail else .fail
 |_=> .fail
def m7(b:ax aE):ax (aE×dY):=b.map λn=>(cK n, .o .dead)
def Dp(E:eP)(rN:aE)(t:aE)(s x:AV):Rd (aW×AV×ax (aE×dY)):=
 (qs E t).bind λti=>match ti.agg,ti.ks with
 |false,[.l e]=>(qs E e).bind λte=>bif JW te.ks then(uE e s).bind λ(A1,xs,b)=>
  (O_ E rN e te.ks b x).bind λ(yu,ys,w2)=>(fresh rN).bind λ_=>
  .ret (cy (xs.length+ys.length) te.bytes, .own rN,m7 b++(w2++[(cK rN, .o (.row e (A1&&yu) (xs++ys)))]))else .fail
 |_,_=> .fail
def Q_(E:eP)(rN:aE)(t:aE)(s:AV)(n:az):Rd (aW×AV×ax (aE×dY)):=
 (qs E t).bind λti=>match ti.agg,ti.ks with
 |false,[.l e]=>(qs E e).bind λte=>bif JW te.ks&&flat E te.ks then(uE e s).bind λ(ex,xs,b)=>(fresh rN).bind λ_=>
  .ret (decide (0<=n)&&cy (xs.length+n.toNat) te.bytes&&decide (n<=9223372036854775807), .own rN,m7 b++[(cK rN, .o (.row e ex (xs++aN te.ks n.toNat)))])else .fail
 |_,_=> .fail
def N1(E:eP)(e:aE)(x:AV):Rd (ax (aE×dY)):=
 match x with
 | .own nm=>(iE nm).bind λ
  | .row e' ex xs=>(qs E e).bind λte=>bif bh e e'&&plain te.ks then .ret [(cK nm, .o (.row e' ex (aN te.ks xs.length)))]else .fail
  |_=> .fail
 | .vw nm lo hi=>(iE nm).bind λ
  | .row e' ex xs=>(qs E e).bind λte=>bif bh e e'&&plain te.ks then .ret [(cK nm, .o (.row e' ex (xs.take lo++aN te.ks (hi-lo)++xs.drop hi)))]else .fail
  |_=> .fail
 | .nl=> .ret []
 |_=> .fail
def mm(mx:aW)(a b:az):az:=bif mx then(if b>a then b else a)else(if b<a then b else a)
def uY(mx:aW):ax c5->l_->az->Rd AV
 |[],k,a=> .ret (.i k a)
 |x::r,k,a=>(Ao x).bind λ(_,b)=>uY mx r k (mm mx a b)
end Go.FG

namespace Go.FG
inductive Src where
 |own (nm e:aE) (ex:aW)|no
structure Pk where
 a:AA
 src:Src
 rd:ax aE
def xJ(E:eP)(mt:aW)(a:AV):Rd Pk:=
 match a with
 | .i k n=> .ret ⟨.i k n, .no,[]⟩| .b x=> .ret ⟨.b x, .no,[]⟩| .s x=> .ret ⟨.s x, .no,[]⟩
 | .sh e xs=> .ret ⟨.sh e xs, .no,[]⟩
 | .nl=> .ret ⟨.nl, .no,[]⟩
 | .fn f g7=> .ret ⟨.fn f g7, .no,[]⟩
 | .own nm=>(iE nm).bind λ
  | .row e ex xs=>bif mt then .ret ⟨.ow e ex xs, .own nm e ex,[]⟩else .ret ⟨.sh e xs, .no,[nm]⟩
  | .eZ e xs=> .ret ⟨.sh e xs, .no,[]⟩
  |_=> .fail
 | .vw nm lo hi=>bif mt then .fail else(iE nm).bind λ
  | .row e _ xs=> .ret ⟨.sh e (dW xs lo hi), .no,[nm]⟩
  | .eZ e xs=> .ret ⟨.sh e (dW xs lo hi), .no,[]⟩
  |_=> .fail
 | .inn nm i j=>(iE nm).bind λ
  | .row e ai xs=>(qs E e).bind λte=>match te.ks[j]? with
   |some (.l e2)=>(qs E e2).bind λt2=>bif plain t2.ks&& !mt then .ret ⟨.sh e2 (g9 (ar xs i j)), .no,[nm]⟩else .fail
   |_=> .fail
  |_=> .fail
 |_=> .fail
def Aw(E:eP)(mt:aW):ax AV->Rd (ax Pk)
 |[]=> .ret []
 |a::r=>(xJ E mt a).bind λp=>(Aw E mt r).bind λl=> .ret (p::l)
structure Pa where
 arg:eC
 box:aA (aE×ax AV)
 cs:ax Pk
def Zb(E:eP)(mt:aW)(x:SV):Rd Pa:=
 match x with
 | .v ak [.bp nm 0]=>bif mt then(iE nm).bind λ
   | .box xs=>(Aw E ai xs).bind λl=> .ret ⟨.pt (l.map (·.a)),ah (nm,xs),l⟩
   |_=> .fail
  else .fail
 | .v agg xs=>(Aw E mt xs).bind λl=> .ret ⟨.v agg (l.map (·.a)),aj,l⟩
 |_=> .fail
def Ut:Ck->AV->AV
 | .l e, .nl=> .sh e []
 |_,a=>a
def Ak:ax Ck->ax AV->ax AV
 |k::ks,a::r=>Ut k a::Ak ks r
 |_,r=>r
def nlz(E:Tab)(t:aA aE)(v:SV):SV:=
 match t with
 |none=>v
 |some t=>match E.ty t,v with
  |some ti, .v g xs=> .v g (Ak ti.ks xs)
  |_,v=>v
def NL(E:eP)(f:aE)(Mx:aA (ax aE)):aE->ax c5->Rd (ax Pa)
 |_,[]=> .ret []
 |p,x::r=>(DX x).bind λv=>(Zb E (E.mode f p) (bif E.mode f p then v else nlz E (match Mx with|some l=>l[p]? |none=>aj) v)).bind λa=>bif eL a.cs.length 100 then(NL E f Mx (p+1) r).bind λl=> .ret (a::l)else .fail
def Pk.sC(p:Pk):ax aE:=match p.src with| .own nm _ _=>[nm]| .no=>[]
def Pa.sC(p:Pa):ax aE:=(match p.box with|some (nm,_)=>[nm]|none=>[])++p.cs.flatMap (·.sC)
def Pa.my(p:Pa):ax aE:=p.cs.flatMap (·.rd)
def rO:ax aE->aW
 |[]=>ai|n::r=> !lx n r&&rO r
def p_:ax aE->ax aE->aW
 |[],_=>ai|n::r,l=> !lx n l&&p_ r l
def qb(ok:aW)(nm:aE)(a:AA):Rd (AV×ax (aE×dY)):=
 match a with
 | .i k n=> .ret (.i k n,[])| .b x=> .ret (.b x,[])| .s x=> .ret (.s x,[])| .nl=> .ret (.nl,[])
 | .sh e xs=>bif ok then .ret (.sh e xs,[])else .fail
 | .ow e ex xs=>bif ex||ok then(fresh nm).bind λ_=> .ret (.own nm,[(cK nm, .o (.row e ex xs))])else .fail
 |_=> .fail
def yE(ok:aW):aE->ax AA->Rd (ax AV×ax (aE×dY))
 |_,[]=> .ret ([],[])
 |nm,a::r=>(qb ok nm a).bind λ(v,w)=>(yE ok (nm+1) r).bind λ(vs,ws)=> .ret (v::vs,w++ws)
def Dt(ok:aW)(nm:aE)(a:eC):Rd ((aW×ax AV)×ax (aE×dY)):=
 match a with
 | .v agg xs=>(yE ok nm xs).bind λ(vs,ws)=> .ret ((agg,vs),ws)
 | .pt xs=>(yE ok nm xs).bind λ(vs,ws)=>(fresh (nm+30)).bind λ_=> .ret ((ak,[.bp (nm+30) 0]),ws++[(cK (nm+30), .o (.box vs))])
 | .fb _=> .fail
def zC(ok:aW):aE->ax eC->Rd (ax (aW×ax AV)×ax (aE×dY))
 |_,[]=> .ret ([],[])
 |nm,a::r=>(Dt ok nm a).bind λ(v,w)=>(zC ok (nm+40) r).bind λ(vs,ws)=> .ret (v::vs,w++ws)
def Cx(ok:aW)(p:Pk)(a:AA):Rd (ax (aE×dY)):=
 match p.src,a with
 | .no,_=> .ret []
 | .own nm e ex, .kp xs=>bif ex||ok then .ret [(cK nm, .o (.row e ex xs))]else .fail
 | .own nm _ _, .nl=> .ret [(cK nm, .o .dead)]
 |_,_=> .fail
def H3(ok:aW):ax Pk->ax AA->Rd (ax (aE×dY))
 |[],_=> .ret []
 |p::r,l=>(Cx ok p (l.headD .nl)).bind λw=>(H3 ok r l.tail).bind λws=> .ret (w++ws)
def Aq(ok:aW)(nm:aE)(p:Pk)(v:AV)(a:AA):Rd (AV×ax (aE×dY)):=
 match p.src,a with
 | .own n e ex, .kp xs=>bif ex||ok then .ret (v,[(cK n, .o (.row e ex xs))])else .fail
 | .own n _ _,a=>(qb ok nm a).bind λ(v,w)=> .ret (v,(cK n, .o .dead)::w)
 | .no,a=>qb ok nm a
def qm(ok:aW):aE->ax Pk->ax AV->ax AA->Rd (ax AV×ax (aE×dY))
 |_,[],[],[]=> .ret ([],[])
 |nm,p::ps,v::vs,a::as=>(Aq ok nm p v a).bind λ(v,w)=>(qm ok (nm+1) ps vs as).bind λ(vs,ws)=> .ret (v::vs,w++ws)
 |_,_,_,_=> .fail
def PJ(ok:aW)(nm:aE)(p:Pa)(l:ax AA):Rd (ax (aE×dY)):=
 match p.box with
 |some (n,vs)=>(qm ok nm p.cs vs l).bind λ(vs,ws)=> .ret (ws++[(cK n, .o (.box vs))])
 |none=>H3 ok p.cs l
def H2(ok:aW):aE->ax Pa->ax (ax AA)->Rd (ax (aE×dY))
 |_,[],_=> .ret []
 |nm,p::r,l=>(PJ ok nm p (l.headD [])).bind λw=>(H2 ok (nm+40) r l.tail).bind λws=> .ret (w++ws)
def qD:ax (aW×ax AV)->SV
 |[(agg,xs)]=> .v agg xs
 |l=> .jh l
def mc:eC->aE| .v _ xs=>xs.length| .pt xs=>xs.length| .fb _=>0
def Oi:ax aE->Rd (ax (aE×dY))
 |[]=> .ret []
 |n::r=>(iE n).bind λ
  | .row e _ xs=>(Oi r).bind λws=> .ret ((cK n, .o (.eZ e xs))::ws)
  |_=> .fail
def Dv(E:eP)(nm:aE)(o:eJ)(f:aE)(args:ax c5)(Mx:aA (ax aE))(g7:ax (ax CV)):Rd qU:=
 (NL E f Mx 0 args).bind λps=>
  bif rO (ps.flatMap (·.sC))&&p_ (ps.flatMap (·.sC)) (ps.flatMap (·.my))then
   match E.call f (ps.map (·.arg)++g7.map eC.fb)with
   |some (c,r)=>bif eL ps.length 400&&(r.rs.all λa=>eL (mc a) 30)&&(r.outs.all λa=>eL a.length 100)then(Oi (bif E.tk nm then ps.flatMap (·.my)else [])).bind λw0=>
    (H2 (E.tk nm||(ps.flatMap (·.my)).isEmpty) (nm+400) ps r.outs).bind λw1=>(zC (E.tk nm||(ps.flatMap (·.my)).isEmpty) (nm+1) r.rs).bind λ(vs,w2)=>
    bif rO ((w1++w2).map (·.1))then .ret ⟨c,w0++(w1++w2)++dw o (qD vs)⟩else .fail else .fail
   |none=> .fail
  else .fail
def Rd.or{α:Type}:Rd α->Rd α->Rd α
 | .ret a,_=> .ret a
 | .fail,y=>y
 | .get k f,y=> .get k λc=>(f c).or y
def Jh(E:eP)(nm:aE)(o:eJ)(f:aE)(args:ax c5)(Mx:ax aE)(g7:ax (ax CV)):Rd qU:=
 (Dv E nm o f args aj g7).or (Dv E nm o f args (ah Mx) g7)
def z_(E:eP)(o:eJ)(f n i j:aE)(y:c5):Rd qU:=
 (Ao y).bind λ(k,m)=>(iE n).bind λ
  | .row e ai xs=>(qs E e).bind λte=>match te.ks[j]? with
   |some (.l e2)=>match E.call f [.v ak [.ow e2 ai (g9 (ar xs i j))], .v ak [.i k m]]with
    |some (c,r)=>match r.rs,r.outs with
     |[.v ak [.i k2 m2]],[[.kp ys]]=> .ret ⟨c,(cK n, .o (.row e ai (eA xs i j [.l e2 ys])))::dw o (.v ak [.i k2 m2])⟩
     |_,_=> .fail
    |none=> .fail
   |_=> .fail
  |_=> .fail
def NX:ax c5->Rd (ax (ax CV)×ax (aE×dY))
 |[]=> .ret ([],[])
 |x::r=>(ql x).bind λ
  | .bp nm 0=>(iE nm).bind λ
   | .box xs=>(Zl xs).bind λcs=>(NX r).bind λ(l,ws)=> .ret (cs::l,(cK nm, .o (.mU cs))::ws)
   | .mU cs=>(NX r).bind λ(l,ws)=> .ret (cs::l,ws)
   |_=> .fail
  |_=> .fail
where Zl:ax AV->Rd (ax CV)
 |[]=> .ret []
 |a::r=>(Zl r).bind λl=>match a with
  | .i k n=> .ret (.i k n::l)| .b x=> .ret (.b x::l)| .s x=> .ret (.s x::l)
  | .sh e xs=> .ret (.l e xs::l)
  |_=> .fail
def kM(E:eP)(nm:aE)(o:eJ):Rd qU:=
 match o.op with
 | .move x| .assign x=>(DX x).bind λv=>val o v
 | .nilCheck x=>(ql x).bind λp=>match p with
  | .bp nm j=>val o (.v ak [.bp nm j])
  | .rp nm i j=>val o (.v ak [.rp nm i j])
  |_=> .fail
 | .pick c a b=>(ql c).bind λc=>(DX a).bind λa=>(DX b).bind λb=>
  match c,a,b with
  | .b c, .v ak [.b p], .v ak [.b q]=>wU o (.b (bif c then p else q))
  | .b c, .jh [],b=> .ret ⟨!c,dw o b⟩
  | .b c,a, .jh []=> .ret ⟨c,dw o a⟩
  |_,_,_=> .fail
 | .alloc t=>(qs E t).bind λti=>bif JW ti.ks then(fresh nm).bind λ_=> .ret ⟨ai,(cK nm, .o (.box (ti.ks.map AW)))::dw o (.v ak [.bp nm 0])⟩else .fail
 | .box t x=>(DX x).bind λ
  | .v _ xs=>(fresh nm).bind λ_=> .ret ⟨ai,(cK nm, .o (.box xs))::dw o (.v ak [.bp nm 0])⟩
  |_=> .fail
 | .build t ps=>(qs E t).bind λti=>bif JW ti.ks&&ti.agg then(DZ E t ps.toList).bind λl=>val o (.v ai (Ju (ti.ks.map AW) l))else .fail
 | .buildSlice t n ps=>(qs E t).bind λti=>match ti.agg,ti.ks with
  |false,[.l e]=>(qs E e).bind λte=>bif JW te.ks then(Jp ps.toList).bind λex=>(Hd (ex&&flat E te.ks) te.ks ps.toList (aN te.ks n)).bind λ(xs,w)=>(fresh nm).bind λ_=>
   .ret ⟨eL (n*te.ks.length) 16777216&&rO (w.map (·.1)),w++(cK nm, .o (.row e (ex&&flat E te.ks) xs))::dw o (.v ak [.own nm])⟩else .fail
  |_,_=> .fail
 | .load t p=>(qs E t).bind λti=>(ql p).bind λp=>(qC E ti p).bind λxs=>val o (.v ti.agg xs)
 | .store t p x=>(qs E t).bind λti=>(ql p).bind λp=>(DX x).bind λ
  | .v _ ys=>bif bh ys.length ti.ks.length then(QL E p ys).bind λw=> .ret ⟨ai,w++dw o .un⟩else .fail
  |_=> .fail
 | .fieldAddr t p f=>(ql p).bind λp=>(N_ E t f p).bind λq=>wU o q
 | .field t x f=>(DX x).bind λ
  | .v ai xs=>match E.fo t f with
   |some (j,n)=>bif E.Oe t f&&bh n 1 then(match xs.drop j with|a::_=>wU o a|[]=> .fail)else .fail
   |none=> .fail
  |_=> .fail
 | .indexAddr t x i=>(ov E t).bind λ
  | .l e=>(ql x).bind λx=>(Ao i).bind λ(_,n)=>(OI E e x n).bind λ(c,q)=>Il o c q
  |_=> .fail
 | .index t x i=>(ov E t).bind λk=>(ql x).bind λx=>(Ao i).bind λ(_,n)=>match k,x with
  | .s, .s a=>Il o (decide (0<=n)&&decide (n<(a.size:az))) (.i .u8 ((a.data.getD n.toNat 0).toNat:az))
  |_,_=> .fail
 | .binOp op t x y _=>(DX x).bind λx=>(DX y).bind λy=>(Zg E t op x y).bind λ(c,v)=>Il o c v
 | .unOp op _ x=>(ql x).bind λx=>match op,x with
  | .not, .b x=>wU o (.b (!x))
  | .neg, .i k n=>wU o (.i k (k.wrap (0-n)))
  |_,_=> .fail
 | .convert src dst x=>(ov E src).bind λks=>(ov E dst).bind λkd=>(ql x).bind λx=>match kd,ks,x with
  | .i k, .i _, .i _ n=>wU o (.i k (k.wrap n))
  | .s, .s, .s a=>wU o (.s a)
  | .s, .l e', .nl=>(qs E e').bind λte=>bif u8s te.ks&& !te.agg then wU o (.s ⟨#[]⟩)else .fail
  | .s, .l e',a=>(lk E a).bind λ(e,xs)=>(qs E e).bind λte=>bif bh e e'&&u8s te.ks&& !te.agg then Il o (decide (xs.length<=4611686018427387904)) (.s (bytesOf xs))else .fail
  |_,_,_=> .fail
 | .makeSlice t l c=>(Ao l).bind λ(_,n)=>(Ao c).bind λ(_,m)=>(qs E t).bind λti=>match ti.agg,ti.ks with
  |false,[.l e]=>(qs E e).bind λte=>bif JW te.ks&&flat E te.ks then(fresh (bif plain te.ks then nm else nm+999)).bind λ_=> .ret ⟨decide (0<=n)&&decide (n=m)&&cy n.toNat te.bytes,(cK (bif plain te.ks then nm else nm+999), .o (.row e ai (aN te.ks n.toNat)))::dw o (.v ak [.own (bif plain te.ks then nm else nm+999)])⟩else .fail
  |_,_=> .fail
 | .slice t x lo hi mx=>match mx with
  |some _=> .fail
  |none=>(ov E t).bind λk=>(ql x).bind λx=>(H_ E k x lo hi).bind λ(c,v)=>Il o c v
 | .extract x i=>(DX x).bind λ
  | .jh l=>match l[i]? with|some (agg,xs)=>val o (.v agg xs)|none=> .fail
  |_=> .fail
 | .makeFunc (.func f) first g7=>bif first.isEmpty then(NX g7.toList).bind λ(l,ws)=> .ret ⟨ai,ws++dw o (.v ak [.fn f l])⟩else .fail
 | .call c=>match c.callee with
  | .builtin .len=>match c.args.toList,c.argTypes.toList with
   |[x],[t]=>(ov E t).bind λk=>(ql x).bind λx=>(aaq E k x).bind λn=>wU o (.i .i64 n)
   |_,_=> .fail
  | .builtin .cap=>match c.args.toList,c.argTypes.toList with
   |[x],[t]=>(ov E t).bind λ| .l _=>((ql x).bind λ| .nl=>wU o (.i .i64 0)|_=> .fail)|_=> .fail
   |_,_=> .fail
  | .builtin .min=>match c.args.toList with
   |x::r=>(Ao x).bind λ(k,n)=>(uY ak r k n).bind λv=>wU o v
   |_=> .fail
  | .builtin .max=>match c.args.toList with
   |x::r=>(Ao x).bind λ(k,n)=>(uY ai r k n).bind λv=>wU o v
   |_=> .fail
  | .builtin .clear=>match c.args.toList with
   |[x]=>match c.argTypes.toList with
    |[t]=>(ov E t).bind λ| .l e=>((ql x).bind λx=>(N1 E e x).bind λw=> .ret ⟨ai,w++dw o (.jh [])⟩)|_=> .fail
    |_=> .fail
   |_=> .fail
  | .builtin .append=>match c.args.toList,c.argTypes.toList with
   |[s,x],[t,u]=>(ov E u).bind λku=>(ql s).bind λs=>(ql x).bind λx=>match ku,x with
    | .i _, .i _ n=>(Q_ E nm t s n).bind λ(b,v,w)=> .ret ⟨b,w++dw o (.v ak [v])⟩
    | .l _,x=>(Dp E nm t s x).bind λ(b,v,w)=> .ret ⟨b,w++dw o (.v ak [v])⟩
    | .s,x=>(Dp E nm t s x).bind λ(b,v,w)=> .ret ⟨b,w++dw o (.v ak [v])⟩
    |_,_=> .fail
   |_,_=> .fail
  | .value f=>(ql f).bind λ
   | .fn f g7=>match c.args.toList,g7 with
    |[x,y],[]=>(DX x).bind λ
     | .v ak [.inn n i j]=>bif E.mode f 0 then z_ E o f n i j y else Jh E nm o f c.args.toList c.argTypes.toList g7
     |_=>Jh E nm o f c.args.toList c.argTypes.toList g7
    |_,_=>Jh E nm o f c.args.toList c.argTypes.toList g7
   |_=> .fail
  |_=> .fail
 |_=> .fail
inductive Ex where
 |normal|exit (id:aE)|ret
structure Lg where
 rs:ax aE
 ws:ax aE
def Jz{R:Type}(a:AV)(f:AV->R):R:=
 match a with
 | .i k n=>f (.i k n)| .b x=>f (.b x)| .s x=>f (.s x)| .sh e xs=>f (.sh e xs)| .nl=>f .nl| .own n=>f (.own n)| .vw n lo hi=>f (.vw n lo hi)
 | .bp n j=>f (.bp n j)| .rp n i j=>f (.rp n i j)| .sp e xs i j=>f (.sp e xs i j)| .inn n i j=>f (.inn n i j)| .ip n i j i2 j2=>f (.ip n i j i2 j2)| .iv n i j lo hi=>f (.iv n i j lo hi)| .fn g g7=>f (.fn g g7)| .fp xs j=>f (.fp xs j)
def Dz{R:Type}(a:aW)(f:aW->R):R:=match a with|true=>f ai|false=>f ak
def nQ{R:Type}:ax AV->(ax AV->R)->R
 |[],f=>f []|a::r,f=>Jz a λa=>nQ r λr=>f (a::r)
def DB{R:Type}:ax (aW×ax AV)->(ax (aW×ax AV)->R)->R
 |[],f=>f []|(g,xs)::r,f=>Dz g λg=>nQ xs λxs=>DB r λr=>f ((g,xs)::r)
def DA{R:Type}(v:SV)(f:SV->R):R:=
 match v with
 | .v g xs=>Dz g λg=>nQ xs λxs=>f (.v g xs)| .jh l=>DB l λl=>f (.jh l)| .un=>f .un
def Hq{R:Type}(o:Obj)(f:Obj->R):R:=
 match o with
 | .box xs=>nQ xs λxs=>f (.box xs)| .mU cs=>f (.mU cs)| .row e ex xs=>Dz ex λex=>f (.row e ex xs)| .eZ e xs=>f (.eZ e xs)| .dead=>f .dead
def Hp{R:Type}(c:dY)(f:dY->R):R:=
 match c with
 | .v x=>DA x λx=>f (.v x)| .o x=>Hq x λx=>f (.o x)| .iU=>f .iU
def zS{R:Type}:ax (aE×dY)->(ax (aE×dY)->R)->R
 |[],f=>f []|(k,c)::r,f=>Hp c λc=>zS r λr=>f ((k,c)::r)
theorem Hn{R:Type}(a:AV)(f:AV->R):Jz a f=f a:=by cases a<;>rfl
theorem wE{R:Type}(a:aW)(f:aW->R):Dz a f=f a:=by cases a<;>rfl
theorem mI{R:Type}:∀(l:ax AV) (f:ax AV->R),nQ l f=f l
 |[],_=>rfl
 |a::r,f=>by simp only[nQ,Hn,mI r]
theorem Ci{R:Type}:∀(l:ax (aW×ax AV)) (f:ax (aW×ax AV)->R),DB l f=f l
 |[],_=>rfl
 |(g,xs)::r,f=>by simp only[DB,wE,mI,Ci r]
theorem Hr{R:Type}(v:SV)(f:SV->R):DA v f=f v:=by cases v<;>simp only[DA,wE,mI,Ci]
theorem K_{R:Type}(v:Obj)(f:Obj->R):Hq v f=f v:=by cases v<;>simp only[Hq,wE,mI]
theorem K9{R:Type}(v:dY)(f:dY->R):Hp v f=f v:=by cases v<;>simp only[Hp,Hr,K_]
theorem Cj{R:Type}:∀(l:ax (aE×dY)) (f:ax (aE×dY)->R),zS l f=f l
 |[],_=>rfl
 |(k,c)::r,f=>by simp only[zS,K9,Cj r]
def ops{R:Type}(E:eP)(all:c_ eJ)(mW:aE):aE->ax eJ->St->ax Lg->(St->ax Lg->aA R)->aA R
 |_,[],σ,lg,K=>K σ lg
 |i,o::rest,σ,lg,K=>match o.guard with
  |none=>match (kM E ((mW+1)*1000000+i*1000) o).run σ []with
   |some (e,l)=>bif e.cond then zS e.ws (λws=>ops E all mW (i+1) rest (wr σ ws) (⟨l,ws.map (·.1)⟩::lg) K)else aj
   |none=>aj
  |some (g,want)=>match (all.getD g default).dst with
   |none=>aj
   |some d=>match σ (oW d)with
    | .v (.v ak [.b x])=>
     let perform:=λy=>match (kM E ((mW+1)*1000000+i*1000) o).run (nG σ (oW d) (.v (.v ak [.b y]))) []with
      |some (e,l)=>bif e.cond then zS e.ws (λws=>ops E all mW (i+1) rest (wr (nG σ (oW d) (.v (.v ak [.b y]))) ws) (⟨oW d::l,ws.map (·.1)⟩::lg) K)else aj
      |none=>aj
     let skip:=λy=>ops E all mW (i+1) rest (wr (nG σ (oW d) (.v (.v ak [.b y]))) (dw o (.jh []))) (⟨[oW d],(dw o (.jh [])).map (·.1)⟩::lg) K
     bif x then(bif want then perform ai else skip ai)else(bif want then skip ak else perform ak)
    | .v (.jh [])=>ops E all mW (i+1) rest (wr σ (dw o (.jh []))) (⟨[oW d],(dw o (.jh [])).map (·.1)⟩::lg) K
    |_=>aj
def Zp(acc:ax aE):ax aE->ax aE
 |[]=>acc|n::r=>bif lx n acc then Zp acc r else Zp (n::acc) r
def lJ{R:Type}:ax aE->(ax aE->R)->R
 |[],f=>f []|n::r,f=>lJ r λr=>f (n::r)
def yN{R:Type}:ax (ax aE)->(ax (ax aE)->R)->R
 |[],f=>f []|n::r,f=>lJ n λn=>yN r λr=>f (n::r)
theorem nD{R:Type}:∀(l:ax aE) (f:ax aE->R),lJ l f=f l
 |[],_=>rfl
 |n::r,f=>by simp only[lJ,nD r]
theorem zR{R:Type}:∀(l:ax (ax aE)) (f:ax (ax aE)->R),yN l f=f l
 |[],_=>rfl
 |n::r,f=>by simp only[yN,nD,zR r]
theorem Dw:∀(l acc:ax aE) (x:aE),x∈Zp acc l->x∈acc\/x∈l
 |[],_,_,h=> .inl h
 |n::r,acc,x,h=>by
  unfold Zp at h;cases hb:lx n acc with
  |true=>
   rw[hb]at h;rcases Dw r acc x h with h|h
   ·exact .inl h
   ·exact .inr (cM _ h)
  |false=>
   rw[hb]at h;rcases Dw r (n::acc) x h with h|h
   ·rcases cq.1 h with rfl|h
    ·exact .inr du
    ·exact .inl h
   ·exact .inr (cM _ h)
def Dn:ax (ax aE)->ax eJ->ax (ax aE)
 |acc,[]=>acc
 |acc,o::r=>lJ (Zp [] (o.after.toList.flatMap λe=>bif lB .any e then e.on::acc.getD e.on []else [])) λx=>Dn (acc++[x]) r
def FW:aE->ax eJ->aW
 |_,[]=>ai
 |i,o::r=>(o.after.toList.all λe=> !Region.binds .any e||Nat.blt e.on i)&&FW (i+1) r
def zI(a b:Lg):aW:= !(p_ a.ws b.ws&&p_ a.ws b.rs&&p_ b.ws a.rs)
def yH(an:ax aE)(j:aE)(a:Lg):aE->ax Lg->aW
 |_,[]=>ai
 |i,b::r=>(lx i an|| !zI a b)&&yH an j a (i+1) r
def calm:aE->ax (ax aE)->ax Lg->ax Lg->aW
 |_,_,_,[]=>ai
 |j,an,done,a::r=>yH (an.getD j []) j a 0 done&&calm (j+1) an (done++[a]) r
def yM{R:Type}:ax Lg->(ax Lg->R)->R
 |[],f=>f []|a::r,f=>lJ a.rs λrs=>lJ a.ws λws=>yM r λr=>f (⟨rs,ws⟩::r)
theorem zQ{R:Type}:∀(l:ax Lg) (f:ax Lg->R),yM l f=f l
 |[],_=>rfl
 |n::r,f=>by simp only[yM,nD,zQ r]
def Ji(an:ax (ax aE))(l:ax Lg):aW:=yN an λan=>yM l λl=>calm 0 an [] l
theorem NW(an:ax (ax aE))(l:ax Lg):Ji an l=calm 0 an [] l:=by simp only[Ji,zR,zQ]
def bw:AV->ax aE
 | .own n=>[n]| .vw n _ _=>[n]| .bp n _=>[n]| .rp n _ _=>[n]| .inn n _ _=>[n]| .ip n _ _ _ _=>[n]| .iv n _ _ _ _=>[n]|_=>[]
def ch:SV->ax aE
 | .v _ xs=>xs.flatMap bw| .jh l=>l.flatMap λ(_,xs)=>xs.flatMap bw| .un=>[]
def Sj:ax aE->ax aE->ax aE
 |l,[]=>l
 |l,n::r=>lJ (bif lx n l then l else l++[n]) λl=>Sj l r
def slot(σ:St)(n:aE):SV:=match σ (oW n)with| .v x=>x|_=> .un
def aem(σ:St)(nm:aE):ax aE:=match σ (cK nm)with| .o (.box xs)=>xs.flatMap bw|_=>[]
def idx(n:aE):aE->ax aE->aA aE
 |_,[]=>aj|i,m::r=>bif bh n m then ah i else idx n (i+1) r
def enc(f:aW)(k:aE):aE:=bif f then k*1000+999 else k
def th(l:ax aE)(n:aE):aA aE:=bif eL 900000000 n then(bif lx n l then ah n else aj)else(match idx n 0 l with|some k=>ah (enc (uh n) k)|none=>aj)
def nX(l:ax aE)(a:AV):AV:=
 match a with
 | .own n=>match th l n with|some k=> .own k|none=> .nl
 | .vw n lo hi=>match th l n with|some k=> .vw k lo hi|none=> .nl
 | .bp n j=>match th l n with|some k=> .bp k j|none=> .nl
 | .rp n i j=>match th l n with|some k=> .rp k i j|none=> .nl
 | .inn n i j=>match th l n with|some k=> .inn k i j|none=> .nl
 | .ip n i j i2 j2=>match th l n with|some k=> .ip k i j i2 j2|none=> .nl
 | .iv n i j lo hi=>match th l n with|some k=> .iv k i j lo hi|none=> .nl
 |a=>a
def wG(l:ax aE)(ns:ax aE):aW:=ns.all λn=>lx n l
def CA(l:ax aE)(v:SV):SV:=
 bif wG l (ch v)then(match v with
 | .v agg xs=> .v agg (xs.map (nX l))| .jh r=> .jh (r.map λ(g,xs)=>(g,xs.map (nX l)))| .un=> .un)else .un
def LV(l:ax aE)(o:dY):dY:=
 match o with
 | .o (.box xs)=>bif wG l (xs.flatMap bw)then .o (.box (xs.map (nX l)))else .o .dead
 | .o x=> .o x
 |_=> .o .dead
def eO:ax (aE×dY)->St
 |[],_=> .iU
 |(k,c)::r,n=>bif bh n k then c else eO r n
def tT(σ:St)(l:ax aE):ax aE->ax (aE×dY)
 |[]=>[]|n::r=>match th l n with|some k=>(cK k,LV l (σ (cK n)))::tT σ l r|none=>tT σ l r
def G9(keep:ax aE)(σ:St):ax aE:=
 lJ (Sj [] (keep.flatMap λn=>ch (slot σ n))) λl0=>lJ (Sj l0 (l0.flatMap (aem σ))) λl1=>Sj l1 (l1.flatMap (aem σ))
def G8(keep:ax aE)(σ:St)(l:ax aE):ax (aE×dY):=
 bif eL l.length 900 then keep.map (λn=>(oW n, .v (CA l (slot σ n))))++tT σ l l else []
def TA(x:aE):aW:=eL 1000000000000000 x
def WS(x:aE):aE:=(x/1000000)%1000000000
def OT(x:aE):aE:=(x/1000)%1000
def kTy(x:aE):aE:=x%1000
def kNm(x:aE):aE:=800000000+((x/1000)%1000000)*100
def xI{α:Type}(x:aE)(σ:St)(f:St->α):α:=
 match slot σ (WS x)with
 | .v ak [.bp nm 0]=>match σ (cK nm),σ (cK (kNm x))with
  | .o (.box xs), .iU=>match xs[OT x]? with
   |some .nl=>nQ (xs.set (OT x) (.own (kNm x))) λys=>f (nG (nG σ (cK nm) (.o (.box ys))) (cK (kNm x)) (.o (.row (kTy x) ai [])))
   |_=>f σ
  |_,_=>f σ
 |_=>f σ
def JT{α:Type}:ax aE->St->(St->α)->α
 |[],σ,f=>f σ
 |x::r,σ,f=>bif TA x then xI x σ (λσ=>JT r σ f)else JT r σ f
def G_(keep:ax aE)(σ:St):ax (aE×dY):=JT keep σ λσ=>lJ (keep.filter λx=> !TA x) λkeep=>lJ (G9 keep σ) λl=>G8 keep σ l
def canon(keep:ax aE)(σ:St):St:=eO (G_ keep σ)
def eP.xG(E:eP)(n:aE):ax aE:=(E.keep n).filter λx=>bif TA x then(match E.ty (kTy x)with|some _=>ai|none=>ak)else ai
def fL:Code->aE
 | .region id _ _=>id| .seq a _=>fL a| .block _ c=>fL c| .scope c=>fL c|_=>0
def Cp{R:Type}(g:St->aA R)(cn:St->St)(K:Ex->St->aA R):Ex->St->aA R
 | .normal,σ=>g (cn σ)
 |e,σ=>K e (cn σ)
def iter{R:Type}(f:St->(Ex->St->aA R)->aA R)(cn:St->St):aE->St->(Ex->St->aA R)->aA R
 |0,_,_=>aj
 |n+1,σ,K=>f σ (Cp (λs=>iter f cn n s K) cn K)
theorem Lw{R:Type}(f:St->(Ex->St->aA R)->aA R)(cn:St->St)(n:aE)(σ:St)(K:Ex->St->aA R):iter f cn (n+1) σ K=f σ (Cp (λs=>iter f cn n s K) cn K):=rfl
abbrev It(R:Type):=aE->(St->(Ex->St->aA R)->aA R)->(St->St)->ax (aE×dY)->(Ex->St->aA R)->aA R
def apQ{R:Type}(n:aE):It R:=λ_ f cn L K=>iter f cn n (eO L) K
def aok{R:Type}(f:St->(Ex->St->aA R)->aA R)(K:Ex->St->aA R):Ex->St->aA R
 | .normal,σ=>f σ K
 |e,σ=>K e σ
def akz{R:Type}(id:aE)(K:Ex->St->aA R):Ex->St->aA R
 | .exit j,σ=>bif bh j id then K .normal σ else K (.exit j) σ
 |e,σ=>K e σ
def rH{R:Type}(E:eP)(it:It R):Code->St->(Ex->St->aA R)->aA R
 | .skip,σ,K=>K .normal σ
 | .region id os draw,σ,K=>ops E os id 0 os.toList σ [] λσ lg=>bif !draw||(FW 0 os.toList&&Ji (Dn [] os.toList) lg.reverse)then K .normal σ else aj
 | .seq a b,σ,K=>rH E it a σ (aok (rH E it b) K)
 | .cond c a b,σ,K=>match c with
  | .tmp t=>match σ (oW t)with
   | .v (.v ak [.b x])=>bif x then(rH E it a (nG σ (oW t) (.v (.v ak [.b ai]))) K)else(rH E it b (nG σ (oW t) (.v (.v ak [.b ak]))) K)
   |_=>aj
  |_=>aj
 | .block id c,σ,K=>rH E it c σ (akz id K)
 | .loop c,σ,K=>it (fL c) (rH E it c) (canon (E.xG (fL c))) (G_ (E.xG (fL c)) σ) K
 | .exit id,σ,K=>K (.exit id) σ
 | .ret,σ,K=>K .ret σ
 |_,_,_=>aj
def ja:Code->ax Code
 | .seq a b=>ja a++ja b
 | .cond _ a b=>ja a++ja b
 | .block _ c=>ja c
 | .loop c=>c::ja c
 |_=>[]
def Ab(mW:aE):Code->aA Code
 | .seq a b=>match Ab mW a with|some r=>ah r|none=>Ab mW b
 | .cond _ a b=>match Ab mW a with|some r=>ah r|none=>Ab mW b
 | .block _ c=>Ab mW c
 | .loop c=>bif bh (fL c) mW then ah c else Ab mW c
 |_=>aj
def b_(F:Func)(mW:aE):Code:=((F.body.bind (Ab mW)).getD .skip)
end Go.FG

namespace Go.FG
def dI(p j:aE):aE:=900000000+p*1000+j
def j8(nm:aE)(a:AA):AV:=
 match a with
 | .i k n=> .i k n| .b x=> .b x| .s x=> .s x| .sh e xs=> .sh e xs| .nl=> .nl
 | .ow _ _ _=> .own nm| .kp _=> .nl| .fn f g7=> .fn f g7
def FC(nm:aE)(a:AA):ax (aE×dY):=match a with| .ow e ex xs=>[(cK nm, .o (.row e ex xs))]|_=>[]
def fC(nm:aE):ax AA->ax AV
 |[]=>[]|a::r=>j8 nm a::fC (nm+1) r
def tP(nm:aE):ax AA->ax (aE×dY)
 |[]=>[]|a::r=>FC nm a++tP (nm+1) r
def rL(p:aE)(a:eC):SV:=
 match a with
 | .v agg xs=> .v agg (fC (dI p 0) xs)
 | .pt _=> .v ak [.bp (dI p 900) 0]
 | .fb xs=> .v ak [.fp xs 0]
def uR(p:aE)(a:eC):ax (aE×dY):=
 match a with
 | .v _ xs=>tP (dI p 0) xs
 | .pt xs=>(cK (dI p 900), .o (.box (fC (dI p 0) xs)))::tP (dI p 0) xs
 | .fb _=>[]
def HG:aE->ax eC->ax (aE×dY)
 |_,[]=>[]|p,a::r=>(oW p, .v (rL p a))::uR p a++HG (p+1) r
def inj(args:ax eC):St:=eO (HG 0 args)
def xD(E:eP)(e:aE):aW:=match E.ty e with|some _=>ai|none=>ak
def xC(E:eP)(om:Om)(σ:St)(k:Ck)(a:AV):aA (AA×ax aE×ax aE):=
 match a with
 | .i k n=>ah (.i k n,[],[])| .b x=>ah (.b x,[],[])| .s x=>ah (.s x,[],[])
 | .sh e xs=>match om with| .own _=>aj|_=>ah (.sh e xs,[],[])
 | .nl=>match om with
  | .own e=>bif xD E e then ah (.ow e ai [],[],[])else aj
  | .sh e=>ah (.sh e [],[],[])
  | .nat=>match k with| .l e=>bif xD E e then ah (.ow e ai [],[],[])else aj|_=>ah (.nl,[],[])
 | .own nm=>match σ (cK nm)with
  | .o (.row e ex xs)=>match om with| .sh _=>ah (.sh e xs,[],[nm])|_=>ah (.ow e ex xs,[nm],[])
  | .o (.eZ e xs)=>match om with| .own _=>aj|_=>ah (.sh e xs,[],[])
  |_=>aj
 | .vw nm lo hi=>match σ (cK nm)with
  | .o (.row e ex xs)=>match om with| .sh _=>ah (.sh e (dW xs lo hi),[],[nm])|_=>ah (.ow e ex (dW xs lo hi),[nm],[])
  | .o (.eZ e xs)=>match om with| .own _=>aj|_=>ah (.sh e (dW xs lo hi),[],[])
  |_=>aj
 |_=>aj
def rJ(E:eP)(q:aE)(σ:St):aE->ax Ck->ax AV->aA (ax AA×ax aE×ax aE)
 |_,_,[]=>ah ([],[],[])
 |j,ks,a::r=>match xC E (E.om q j) σ (ks.headD .o) a,rJ E q σ (j+1) ks.tail r with
  |some (x,l,m),ah (xs,ls,ms)=>ah (x::xs,l++ls,m++ms)
  |_,_=>aj
def Jw(E:eP)(q:aE)(σ:St)(ks:ax Ck)(v:SV):aA (eC×ax aE×ax aE):=
 match v with
 | .v ak [.bp nm 0]=>match σ (cK nm)with
  | .o (.box xs)=>match rJ E q σ 0 [] xs with|some (l,ns,ms)=>ah (.pt l,nm::ns,ms)|none=>aj
  |_=>aj
 | .v agg xs=>match rJ E q σ 0 ks xs with|some (l,ns,ms)=>ah (.v agg l,ns,ms)|none=>aj
 |_=>aj
def P8(E:eP)(q:aE)(σ:St)(r:ResultVar)(t:aE):aA (eC×ax aE×ax aE):=
 match E.ty t with
 |none=>aj
 |some ti=>match r with
  | .tmp s=>Jw E q σ ti.ks (slot σ s)
  | .cell a t'=>match E.ty t',slot σ a with
   |some RF, .v ak [.bp nm 0]=>match σ (cK nm)with| .o (.box xs)=>bif bh xs.length RF.ks.length then Jw E q σ ti.ks (.v RF.agg xs)else aj|_=>aj
   |_,_=>aj
def Ay(E:eP)(σ:St):aE->ax ResultVar->ax aE->aA (ax eC×ax aE×ax aE)
 |_,[],_=>ah ([],[],[])
 |q,r::rs,ts=>match P8 E q σ r (ts.headD 0),Ay E σ (q+1) rs ts.tail with
  |some (a,l,m),ah (as,ls,ms)=>ah (a::as,l++ls,m++ms)
  |_,_=>aj
def Gf(a b:aW):aW:=bif a then b else !b
def mi(σ:St)(tk:ax aE)(nm:aE)(a:AA):AA×ax aE:=
 match a with
 | .ow e ex _=>bif lx nm tk then(.nl,[])else(match σ (cK nm)with| .o (.row e' sr xs)=>bif bh e e'&&Gf ex sr then(.kp xs,[nm])else(.nl,[])|_=>(.nl,[]))
 |_=>(.nl,[])
def ou(σ:St)(tk:ax aE)(nm:aE):ax AA->ax AA×ax aE
 |[]=>([],[])|a::r=>((mi σ tk nm a).1::(ou σ tk (nm+1) r).1,(mi σ tk nm a).2++(ou σ tk (nm+1) r).2)
def VY(E:eP)(om:Om)(σ:St)(nm:aE)(b:AA)(a:AV):aA (AA×ax aE×ax aE):=
 match om,b,a with
 | .nat, .ow e ex _, .own n=>bif bh n nm then(match σ (cK n)with| .o (.row e' sr xs)=>bif bh e e'&&Gf ex sr then ah (.kp xs,[n],[])else aj|_=>aj)else xC E om σ .o a
 |_,_,a=>xC E om σ .o a
def Du(E:eP)(q:aE)(σ:St):aE->ax AA->ax AV->aA (ax AA×ax aE×ax aE)
 |_,_,[]=>ah ([],[],[])
 |j,bs,a::r=>match VY E (E.om q j) σ (dI q j) (bs.headD .nl) a,Du E q σ (j+1) bs.tail r with
  |some (x,l,m),ah (xs,ls,ms)=>ah (x::xs,l++ls,m++ms)
  |_,_=>aj
def Oo:ax AA->aW
 |[]=>ak| .ow _ _ _::_=>ai|_::r=>Oo r
def Ar(E:eP)(σ:St)(tk:ax aE):aE->ax eC->aA (ax (ax AA)×ax aE×ax aE)
 |_,[]=>ah ([],[],[])
 |p,a::r=>match Ar E σ tk (p+1) r with
  |none=>aj
  |some (l,ns,ms)=>match a with
   | .v _ xs=>bif Oo xs then ah ((ou σ tk (dI p 0) xs).1::l,(ou σ tk (dI p 0) xs).2++ns,ms)else ah ([]::l,ns,ms)
   | .pt xs=>match σ (cK (dI p 900))with
    | .o (.box vs)=>match Du E p σ 0 xs vs with|some (as,ns',ms')=>ah (as::l,dI p 900::(ns'++ns),ms'++ms)|none=>aj
    |_=>aj
   | .fb _=>ah ([]::l,ns,ms)
def sq:ax (ax AA)->ax (ax AA)
 |[]=>[]
 |x::r=>match x,sq r with|[],[]=>[]|x,r=>x::r
def fin(E:eP)(F:Func)(args:ax eC)(e:Ex)(σ:St):aA dz:=
 match e with
 | .exit _=>aj
 |_=>match Ay E σ 500 F.results.toList F.resultTypes.toList with
  |some (rs,tk,fz)=>match Ar E σ (tk++fz) 0 args with
   |some (outs,ns,ms)=>bif rO (tk++ns)&&p_ (tk++ns) (fz++ms)&&eL args.length 500&&(args.all λa=>eL (mc a) 100)&&(rs.all λa=>eL (mc a) 100)&&(outs.all λa=>eL a.length 100)then ah ⟨rs,sq outs⟩else aj
   |none=>aj
  |none=>aj
def body(E:eP)(it:It dz)(F:Func)(args:ax eC):aA dz:=
 match F.body with
 |some c=>rH E it c (inj args) (fin E F args)
 |none=>aj
end Go.FG

namespace Go.FG
structure Pl where
 nil:aW
 blk:aE
 off:aE
 cap:aE
 n:aE
 sz:aE
def mf(p:Pl):a_:=if p.nil=ai then .slice aj 0 0 else .slice (ah ⟨p.blk,p.off,aj⟩) p.n p.cap
def oX(w:bB)(b:aE)(vals:c_ a_):Prop:=
 ∃t fr,w.heap[b]? =ah (.cells vals t fr)/\∀o,o<=vals.size->(decide (fr.1<=o)&&decide (o<fr.2))=ak
def L8:CV->a_
 | .i k n=> .int k n| .b x=> .bool x| .s x=> .string x| .l _ _=> .nilIface
def HU(x:aq):Prop:=x.size<=4611686018427387904
def okC:CV->Prop
 | .s x=>HU x|_=>True
def Sc(u:a_)(x:CV):Prop:=u=L8 x/\okC x
structure eB where
 P:aE->Pl
 G:aE->aE->aE->Pl
 K:aE->Prop
abbrev ad(b o:aE):Addr:=⟨b,o,aj⟩
inductive cQ (E:Tab) (w:bB) (K:aE->Prop):a_->CV->Prop
 |i (k n):cQ E w K (.int k n) (.i k n)
 |b (x):cQ E w K (.bool x) (.b x)
 |s (x) (h:HU x):cQ E w K (.string x) (.s x)
 |nl (e A c):cQ E w K (.slice A 0 c) (.l e [])
 |l (e xs b o c ti) (U:aE->aE->a_) (ht:E.ty e=ah ti) (hc:xs.length<=c) (hm:c<=maxLen) (hK:K b) (hs:∀y∈xs,y.map CV.kd=ti.ks)
  (hcell:∀i j y x,xs[i]? =ah y->y[j]? =ah x->w.cell? (ad b (o+i*ti.ks.length+j))=ah (U i j))
  (gO:∀i j y x,xs[i]? =ah y->y[j]? =ah x->cQ E w K (U i j) x):cQ E w K (.slice (ah (ad b o)) xs.length c) (.l e xs)
theorem oX.cell{w:bB}{b:aE}{vals:c_ a_}(h:oX w b vals)(o:aE):w.cell? (ad b o)=vals[o]? :=by obtain⟨t,fr,h,_⟩:=h;simp[World.cell?,h]
theorem oX.lt{w:bB}{b:aE}{vals:c_ a_}(h:oX w b vals):b<w.heap.size:=by obtain⟨t,fr,h,_⟩:=h;exact(dF.1 h).1
theorem oX.free{w:bB}{b:aE}{vals:c_ a_}(h:oX w b vals){o:aE}(ho:o<vals.size):w.frozen? (ad b o)=false:=by obtain⟨t,fr,h,hf⟩:=h;have:=hf o (Nat.le_of_lt ho);simpa [World.frozen?,h]using this
theorem oX.frame{w w':bB}{b:aE}{vals:c_ a_}(h:oX w b vals)(e:w'.heap[b]? =w.heap[b]?):oX w' b vals:=by obtain⟨t,fr,h,hf⟩:=h;exact⟨t,fr,e.trans h,hf⟩
theorem cQ.frame{E:Tab}{w w':bB}{K K':aE->Prop}{v:a_}{x:CV}(h:cQ E w K v x)(hw:∀b,K b->w'.heap[b]? =w.heap[b]?)(hK:∀b,K b->K' b):cQ E w' K' v x:=by
 induction h with
 |i=>exact .i _ _
 |b=>exact .b _
 |s x h=>exact .s _ h
 |nl=>exact .nl _ _ _
 |l e xs b o c ti U ht hc hm hKb hs hcell gO ih=>exact .l e xs b o c ti U ht hc hm (hK b hKb) hs (λi j y x h1 h2=>(Gw (a:=ad b _) (hw b hKb)).trans (hcell i j y x h1 h2)) (λi j y x h1 h2=>ih i j y x h1 h2)
structure im (w:bB) (p:Pl) (xs:aU) (R:aE->aE->a_->CV->Prop):Prop where
 n:p.n=xs.length
 nil:p.nil=ai->xs=[]/\p.cap=0
 mem:p.nil=ak->∃vals,oX w p.blk vals/\p.n<=p.cap/\p.cap<=maxLen/\p.off+p.cap*p.sz<=vals.size/\
  ∀(i:aE) (y:ax CV) (j:aE) (x:CV),xs[i]? =ah y->y[j]? =ah x->∃u:a_,vals[p.off+i*p.sz+j]? =ah u/\R i j u x
def XC(E:Tab)(w:bB)(G:aE->aE->Pl)(i j:aE)(u:a_):CV->Prop
 | .l e ys=>u=mf (G i j)/\∃ti,E.ty e=ah ti/\plain ti.ks=ai/\(G i j).sz=ti.ks.length/\(∀y∈ys,y.map CV.kd=ti.ks)/\im w (G i j) ys (λ_ _ u x=>Sc u x)
 |x=>Sc u x
def sW:CV->aW| .l _ _=>ai|_=>ak
def fD(xs:aU)(i j:aE):Prop:=∃y x,xs[i]? =ah y/\y[j]? =ah x/\sW x=ai
structure CW (p:Pl) (G:aE->aE->Pl) (xs:aU):Prop where
 out:∀i j,fD xs i j->(G i j).nil=ak->p.nil=ak->(G i j).blk≠p.blk
 one:∀i j i' j',fD xs i j->fD xs i' j'->(G i j).nil=ak->(G i' j').nil=ak->(G i j).blk=(G i' j').blk->i=i'/\j=j'
structure IU (E:Tab) (w:bB) (c:eB) (nm e:aE) (ex:aW) (xs:aU):Prop where
 sh:∃ti,E.ty e=ah ti/\(c.P nm).sz=ti.ks.length/\∀y∈xs,y.map CV.kd=ti.ks
 at_:im w (c.P nm) xs (λi j u x=>if ex=ai then XC E w (c.G nm) i j u x else cQ E w c.K u x)
 inn:ex=ai->CW (c.P nm) (c.G nm) xs
def FB(E:Tab)(w:bB)(K:aE->Prop)(b:aE)(cs:ax CV):Prop:=
 K b/\∀(q:aE) (x:CV),cs[q]? =ah x->∃u:a_,w.cell? (ad b q)=ah u/\cQ E w K u x
def tJ(p:Pl)(lo hi:aE)(v:a_):Prop:=
 lo<=hi/\hi<=p.n/\(p.nil=ai->v= .slice aj 0 0)/\
 (p.nil=ak->(lo<p.cap/\v= .slice (ah (ad p.blk (p.off+lo*p.sz))) (hi-lo) (p.cap-lo))\/(lo=p.cap/\∃o,o<=p.off+p.cap*p.sz/\v= .slice (ah (ad p.blk o)) 0 0))
def dP(E:Tab)(w:bB)(c:eB):AV->a_->Prop
 | .i k n,v=>v= .int k n
 | .b x,v=>v= .bool x
 | .s x,v=>v= .string x/\HU x
 | .sh e xs,v=>cQ E w c.K v (.l e xs)
 | .nl,v=>v= .slice aj 0 0
 | .own nm,v=>v=mf (c.P nm)
 | .vw nm lo hi,v=>tJ (c.P nm) lo hi v
 | .bp nm j,v=>v= .pointer (ah (ad (c.P nm).blk j))
 | .rp nm i j,v=>i<(c.P nm).n/\v= .pointer (ah (ad (c.P nm).blk ((c.P nm).off+i*(c.P nm).sz+j)))
 | .sp e xs i j,v=>∃b o cp ti,cQ E w c.K (.slice (ah (ad b o)) xs.length cp) (.l e xs)/\i<xs.length/\E.ty e=ah ti/\v= .pointer (ah (ad b (o+i*ti.ks.length+j)))
 | .inn nm i j,v=>(i<(c.P nm).n/\v=mf (c.G nm i j))/\uh nm=ak
 | .ip nm i j i2 j2,v=>(i<(c.P nm).n/\i2<(c.G nm i j).n/\v= .pointer (ah (ad (c.G nm i j).blk ((c.G nm i j).off+i2*(c.G nm i j).sz+j2))))/\uh nm=ak
 | .iv nm i j lo hi,v=>(i<(c.P nm).n/\tJ (c.G nm i j) lo hi v)/\uh nm=ak
 | .fn f g7,v=>∃ps:c_ a_,v= .func (.func f) #[] ps/\ps.size=g7.length/\∀(q:aE) (cs:ax CV),g7[q]? =ah cs->∃b:aE,ps[q]? =ah (.pointer (ah (ad b 0)))/\FB E w c.K b cs
 | .fp cs j,v=>∃b,v= .pointer (ah (ad b j))/\FB E w c.K b cs
def o4(E:Tab)(w:bB)(c:eB)(agg:aW)(xs:ax AV)(v:a_):Prop:=
 match agg,xs with
 |false,[a]=>dP E w c a v
 |true,xs=>∃vals:c_ a_,v= .agg vals/\vals.size=xs.length/\∀(j:aE) (a:AV),xs[j]? =ah a->∃u:a_,vals[j]? =ah u/\dP E w c a u
 |_,_=>False
def iA(E:Tab)(w:bB)(c:eB):SV->a_->Prop
 | .v agg xs,v=>o4 E w c agg xs v
 | .jh l,v=>∃vs:c_ a_,v= .tuple vs/\vs.size=l.length/\∀(j:aE) (agg:aW) (xs:ax AV),l[j]? =ah (agg,xs)->∃u:a_,vs[j]? =ah u/\o4 E w c agg xs u
 | .un,_=>True
def oe(E:Tab)(w:bB)(c:eB)(nm:aE):Obj->Prop
 | .box xs=>∃vals,oX w (c.P nm).blk vals/\vals.size=xs.length/\∀(j:aE) (a:AV),xs[j]? =ah a->∃u:a_,vals[j]? =ah u/\dP E w c a u
 | .mU cs=>FB E w c.K (c.P nm).blk cs
 | .row e ex xs=>IU E w c nm e ex xs
 | .eZ e xs=>cQ E w c.K (mf (c.P nm)) (.l e xs)/\(c.P nm).n=xs.length/\∃ti,E.ty e=ah ti/\(c.P nm).sz=ti.ks.length
 | .dead=>True
def eN(c:eB)(nm:aE):Obj->aE->Prop
 | .box _,b=>b=(c.P nm).blk
 | .row _ ex xs,b=>((c.P nm).nil=ak/\b=(c.P nm).blk)\/(ex=ai/\∃i j,fD xs i j/\(c.G nm i j).nil=ak/\b=(c.G nm i j).blk)
 |_,_=>False
def vH(σ:St)(c:eB)(b:aE):Prop:=∃nm o,σ (cK nm)= .o o/\eN c nm o b
def iz(σ:St)(a:AV):Prop:=∀n∈bw a,σ (cK n)≠ .iU
def lC(σ:St)(v:SV):Prop:=∀n∈ch v,σ (cK n)≠ .iU
structure Ok (E:Tab) (σ:St) (w:bB) (c:eB):Prop where
 obj:∀nm o,σ (cK nm)= .o o->oe E w c nm o
 sep:∀nm o uZ o' b,σ (cK nm)= .o o->σ (cK uZ)= .o o'->eN c nm o b->eN c uZ o' b->nm=uZ
 kk:∀nm o b,σ (cK nm)= .o o->eN c nm o b->¬c.K b
 lt:∀b,c.K b->b<w.heap.size
 kn:∀nm xs,σ (cK nm)= .o (.box xs)->∀a∈xs,iz σ a
 gp:E.gp.f w c.K
structure eG (E:Tab) (σ:St) (a:Act) (w:bB) (c:eB):Prop where
 ok:∀n,iA E w c (slot σ n) (a.eval (.tmp n))
 kn:∀n,lC σ (slot σ n)
 df:a.defers=[]
def iN(σ:St)(c c':eB):Prop:=∀nm,(σ (cK nm)≠ .iU\/900000000<=nm)->c'.P nm=c.P nm/\c'.G nm=c.G nm
def oC(σ:St)(c c':eB):Prop:=∀nm,(σ (cK nm)≠ .iU\/900000000<=nm)->c'.P nm=c.P nm/\(uh nm=ak->c'.G nm=c.G nm)
theorem iN.w{σ:St}{c c':eB}(h:iN σ c c'):oC σ c c':=λnm hn=>⟨(h nm hn).1,λ_=>(h nm hn).2⟩
structure nb (σ:St) (c:eB) (w:bB) (σ':St) (c':eB) (w':bB):Prop where
 os:w'.os=w.os
 tape:w'.tape=w.tape
 output:w'.output=w.output
 size:w.heap.size<=w'.heap.size
 K:∀b,c.K b->c'.K b
 same:∀b,b<w.heap.size->¬vH σ c b->w'.heap[b]? =w.heap[b]?
 own:∀b,vH σ' c' b->vH σ c b\/w.heap.size<=b
 kn:∀b,c'.K b->c.K b\/vH σ c b\/w.heap.size<=b
theorem vH.lt{E:Tab}{σ:St}{w:bB}{c:eB}(h:Ok E σ w c){b:aE}(ho:vH σ c b):b<w.heap.size:=by
 obtain⟨nm,o,h1,h2⟩:=ho;have mg:=h.obj nm o h1;cases o with
 |box xs=>obtain⟨vals,hb,_⟩:=mg;cases h2;exact hb.lt
 |mU=>exact h2.elim
 |eZ=>exact h2.elim
 |dead=>exact h2.elim
 |row e ex xs=>
  rcases h2 with ⟨hn,rfl⟩|⟨hex,i,j,⟨y,x,hy,hx,hl⟩,hn,rfl⟩
  ·obtain⟨vals,hb,_⟩:=mg.at_.mem hn;exact hb.lt
  ·by_cases hp:(c.P nm).nil=ai
   ·have:=(mg.at_.nil hp).1;subst this;simp at hy
   ·obtain⟨vals,hb,_,_,_,hc⟩:=mg.at_.mem (by simpa using hp);obtain⟨u,_,hu⟩:=hc i y j x hy hx;rw[bu hex]at hu;cases x with
    |l e2 ys=>obtain⟨_,ti,_,_,_,_,hr⟩:=hu;obtain⟨v2,Er,_⟩:=hr.mem hn;exact Er.lt
    |i=>simp[sW]at hl
    |b=>simp[sW]at hl
    |s=>simp[sW]at hl
theorem Ok.HQ{E:Tab}{σ:St}{w:bB}{c:eB}(h:Ok E σ w c){b:aE}(ho:vH σ c b):¬c.K b:=by obtain⟨nm,o,h1,h2⟩:=ho;exact h.kk nm o b h1 h2
theorem nb.refl(σ:St)(c:eB)(w:bB):nb σ c w σ c w:=
 ⟨rfl,rfl,rfl,cm _,λ_ h=>h,λ_ _ _=>rfl,λ_ h=> .inl h,λ_ h=> .inl h⟩
theorem nb.trans{σ σ1 σ2:St}{c c1 c2:eB}{w w1 w2:bB}(h:nb σ c w σ1 c1 w1)(k:nb σ1 c1 w1 σ2 c2 w2):nb σ c w σ2 c2 w2 where
 os:=k.os.trans h.os
 tape:=k.tape.trans h.tape
 output:=k.output.trans h.output
 size:=cZ h.size k.size
 K b hb:=k.K b (h.K b hb)
 same b hb hn:=(k.same b (gF hb h.size) (λho=>(h.own b ho).elim hn (λh=>by omega))).trans (h.same b hb hn)
 own b hb:=(k.own b hb).elim (h.own b) (λh1=> .inr (cZ h.size h1))
 kn b hb:=by
  rcases k.kn b hb with h1|h1|h1
  ·exact h.kn b h1
  ·exact .inr (h.own b h1)
  ·exact .inr (.inr (cZ h.size h1))
theorem nb.Vu{E:Tab}{σ σ':St}{c c':eB}{w w':bB}(b7:Ok E σ w c)(h:nb σ c w σ' c' w'):∀b,c.K b->w'.heap[b]? =w.heap[b]? :=
 λb hb=>h.same b (b7.lt b hb) (λho=>b7.HQ ho hb)
theorem FB.frame{E:Tab}{w w':bB}{K K':aE->Prop}{b:aE}{cs:ax CV}(h:FB E w K b cs)(hw:∀b,K b->w'.heap[b]? =w.heap[b]?)(hK:∀b,K b->K' b):FB E w' K' b cs:=
 ⟨hK b h.1,λq x hq=>by
  obtain⟨u,hu,hh⟩:=h.2 q x hq;exact⟨u,(Gw (a:=ad b q) (hw b h.1)).trans hu,hh.frame hw hK⟩⟩
theorem dP.nR{E:Tab}{w w':bB}{c c':eB}{a:AV}{v:a_}(h:dP E w c a v)(hw:∀b,c.K b->w'.heap[b]? =w.heap[b]?)(hK:∀b,c.K b->c'.K b)
  (hP:∀n∈bw a,c'.P n=c.P n/\(uh n=ak->c'.G n=c.G n)):dP E w' c' a v:=by
 cases a with
 |i=>exact h
 |b=>exact h
 |s=>exact h
 |nl=>exact h
 |sh e xs=>exact cQ.frame h hw hK
 |own n=>have:=hP n (by simp[bw]);simp only[dP,this.1]at h⊢;exact h
 |vw n lo hi=>have:=hP n (by simp[bw]);simp only[dP,this.1]at h⊢;exact h
 |bp n j=>have:=hP n (by simp[bw]);simp only[dP,this.1]at h⊢;exact h
 |rp n i j=>have:=hP n (by simp[bw]);simp only[dP,this.1]at h⊢;exact h
 |inn n i j=>have h0:=hP n (by simp[bw]);have this:=h0.2 h.2;simp only[dP,h0.1,this]at h⊢;exact h
 |ip n i j i2 j2=>have h0:=hP n (by simp[bw]);have this:=h0.2 h.2;simp only[dP,h0.1,this]at h⊢;exact h
 |iv n i j lo hi=>have h0:=hP n (by simp[bw]);have this:=h0.2 h.2;simp only[dP,h0.1,this]at h⊢;exact h
 |sp e xs i j=>obtain⟨b,o,cp,ti,h1,h2,h3,h4⟩:=h;exact⟨b,o,cp,ti,h1.frame hw hK,h2,h3,h4⟩
 |fn f g7=>obtain⟨ps,h1,h2,h3⟩:=h;exact⟨ps,h1,h2,λq cs hq=>by obtain⟨b,hb,hf⟩:=h3 q cs hq;exact⟨b,hb,hf.frame hw hK⟩⟩
 |fp cs j=>obtain⟨b,h1,h2⟩:=h;exact⟨b,h1,h2.frame hw hK⟩
theorem o4.nR{E:Tab}{w w':bB}{c c':eB}{agg:aW}{xs:ax AV}{v:a_}(h:o4 E w c agg xs v)(hw:∀b,c.K b->w'.heap[b]? =w.heap[b]?)(hK:∀b,c.K b->c'.K b)
  (hP:∀n∈xs.flatMap bw,c'.P n=c.P n/\(uh n=ak->c'.G n=c.G n)):o4 E w' c' agg xs v:=by
 unfold o4 at h⊢;split at h
 ·rename_i a;exact dP.nR h hw hK (λn hn=>hP n (by simpa using hn))
 ·obtain⟨vals,h1,h2,h3⟩:=h;refine⟨vals,h1,h2,λj a hj=> ?_⟩
  obtain⟨u,hu,hv⟩:=h3 j a hj;exact⟨u,hu,hv.nR hw hK (λn hn=>hP n (bA.2 ⟨a,aP hj,hn⟩))⟩
 ·exact h.elim
theorem iA.nR{E:Tab}{w w':bB}{c c':eB}{s:SV}{v:a_}(h:iA E w c s v)(hw:∀b,c.K b->w'.heap[b]? =w.heap[b]?)(hK:∀b,c.K b->c'.K b)
  (hP:∀n∈ch s,c'.P n=c.P n/\(uh n=ak->c'.G n=c.G n)):iA E w' c' s v:=by
 cases s with
 |un=>trivial
 |v agg xs=>exact o4.nR h hw hK hP
 |jh l=>
  obtain⟨vs,h1,h2,h3⟩:=h;refine⟨vs,h1,h2,λj agg xs hj=> ?_⟩
  obtain⟨u,hu,hv⟩:=h3 j agg xs hj;exact⟨u,hu,hv.nR hw hK (λn hn=>hP n (bA.2 ⟨(agg,xs),aP hj,hn⟩))⟩
theorem dP.frame{E:Tab}{w w':bB}{c c':eB}{a:AV}{v:a_}(h:dP E w c a v)(hw:∀b,c.K b->w'.heap[b]? =w.heap[b]?)(hK:∀b,c.K b->c'.K b)
  (hP:∀n∈bw a,c'.P n=c.P n/\c'.G n=c.G n):dP E w' c' a v:=h.nR hw hK (λn hn=>⟨(hP n hn).1,λ_=>(hP n hn).2⟩)
theorem o4.frame{E:Tab}{w w':bB}{c c':eB}{agg:aW}{xs:ax AV}{v:a_}(h:o4 E w c agg xs v)(hw:∀b,c.K b->w'.heap[b]? =w.heap[b]?)(hK:∀b,c.K b->c'.K b)
  (hP:∀n∈xs.flatMap bw,c'.P n=c.P n/\c'.G n=c.G n):o4 E w' c' agg xs v:=h.nR hw hK (λn hn=>⟨(hP n hn).1,λ_=>(hP n hn).2⟩)
theorem iA.frame{E:Tab}{w w':bB}{c c':eB}{s:SV}{v:a_}(h:iA E w c s v)(hw:∀b,c.K b->w'.heap[b]? =w.heap[b]?)(hK:∀b,c.K b->c'.K b)
  (hP:∀n∈ch s,c'.P n=c.P n/\c'.G n=c.G n):iA E w' c' s v:=h.nR hw hK (λn hn=>⟨(hP n hn).1,λ_=>(hP n hn).2⟩)
theorem im.frame{w w':bB}{p:Pl}{xs:aU}{R R':aE->aE->a_->CV->Prop}(h:im w p xs R)(hw:p.nil=ak->w'.heap[p.blk]? =w.heap[p.blk]?)
  (hR:∀i j y x u,xs[i]? =ah y->y[j]? =ah x->R i j u x->R' i j u x):im w' p xs R' where
 n:=h.n
 nil:=h.nil
 mem hn:=by
  obtain⟨vals,h1,h2,h3,h4,h5⟩:=h.mem hn;refine⟨vals,h1.frame (hw hn),h2,h3,h4,λi y j x hi hj=> ?_⟩
  obtain⟨u,hu,hr⟩:=h5 i y j x hi hj;exact⟨u,hu,hR i j y x u hi hj hr⟩
theorem XC.frame{E:Tab}{w w':bB}{G:aE->aE->Pl}{i j:aE}{u:a_}{x:CV}(h:XC E w G i j u x)(hw:sW x=ai->(G i j).nil=ak->w'.heap[(G i j).blk]? =w.heap[(G i j).blk]?):XC E w' G i j u x:=by
 cases x with
 |l e ys=>obtain⟨h1,ti,h2,h3,h4,h5,h6⟩:=h;exact⟨h1,ti,h2,h3,h4,h5,h6.frame (hw rfl) (λ_ _ _ _ _ _ _ h=>h)⟩
 |i=>exact h
 |b=>exact h
 |s=>exact h
theorem oe.frame{E:Tab}{w w':bB}{c c':eB}{nm:aE}{o:Obj}(h:oe E w c nm o)(hw:∀b,c.K b->w'.heap[b]? =w.heap[b]?)(hK:∀b,c.K b->c'.K b)
  (hf:∀b,eN c nm o b->w'.heap[b]? =w.heap[b]?) (hP:c'.P nm=c.P nm/\c'.G nm=c.G nm)
  (hPs:∀xs,o= .box xs->∀a∈xs,∀n∈bw a,c'.P n=c.P n/\(uh n=ak->c'.G n=c.G n)):oe E w' c' nm o:=by
 cases o with
 |dead=>trivial
 |box xs=>
  obtain⟨vals,h1,h2,h3⟩:=h;refine⟨vals, ?_,h2,λj a hj=> ?_⟩
  ·rw[hP.1];exact h1.frame (hf _ rfl)
  ·obtain⟨u,hu,hv⟩:=h3 j a hj;exact⟨u,hu,hv.nR hw hK (hPs xs rfl a (aP hj))⟩
 |mU cs=>show FB E w' c'.K (c'.P nm).blk cs;rw[hP.1];exact FB.frame h hw hK
 |eZ e xs=>
  obtain⟨h1,h2,h3⟩:=h;refine⟨?_, ?_, ?_⟩
  ·rw[hP.1];exact h1.frame hw hK
  ·rw[hP.1];exact h2
  ·rw[hP.1];exact h3
 |row e ex xs=>
  obtain⟨h1,h2,h3⟩:=h;refine⟨by rw[hP.1];exact h1, ?_,by rw[hP.1,hP.2];exact h3⟩
  rw[hP.1,hP.2];refine h2.frame (λhn=>hf _ (.inl ⟨hn,rfl⟩)) (λi j y x u hi hj hr=> ?_);by_cases hx:ex=ai
  ·rw[bu hx]at hr⊢;exact hr.frame (λhl hn=>hf _ (.inr ⟨hx,i,j,⟨y,x,hi,hj,hl⟩,hn,rfl⟩))
  ·rw[bJ hx]at hr⊢;exact hr.frame hw hK
end Go.FG

namespace Go.FG
theorem rV(s:St)(k:aE)(c:dY):nG s k c k=c:=by simp[nG]
theorem wT(s:St){k n:aE}(c:dY)(h:n≠k):nG s k c n=s n:=by
 have:bh n k=false:=by
  cases hb:bh n k with
  |false=>rfl
  |true=>exact cw (aQ hb) h
 simp[nG,this]
theorem qp(n m:aE):oW n≠cK m:=by unfold oW cK;omega
theorem kW(n m:aE):cK n≠oW m:=by unfold oW cK;omega
theorem D_{n m:aE}(h:oW n=oW m):n=m:=by unfold oW at h;omega
theorem ju{n m:aE}(h:cK n=cK m):n=m:=by unfold cK at h;omega
theorem Gq(s:St)(d:aE)(c:dY)(m:aE):nG s (oW d) c (cK m)=s (cK m):=wT s c (kW m d)
theorem nv(s:St)(n:aE)(c:dY)(m:aE):nG s (cK n) c (cK m)=if m=n then c else s (cK m):=by
 by_cases h:m=n
 ·subst h;simp[rV]
 ·rw[bJ h];exact wT s c (λe=>h (ju e))
theorem gY(s:St)(n:aE)(c:dY)(m:aE):slot (nG s (cK n) c) m=slot s m:=by unfold slot;rw[wT s c (qp m n)]
theorem vk(s:St)(d:aE)(v:SV)(m:aE):slot (nG s (oW d) (.v v)) m=if m=d then v else slot s m:=by
 by_cases h:m=d
 ·subst h;simp[slot,rV]
 ·rw[bJ h];unfold slot;rw[wT s _ (λe=>h (D_ e))]
theorem Mb(s:St)(l r:ax (aE×dY)):wr s (l++r)=wr (wr s l) r:=by
 induction l generalizing s with
 |nil=>rfl
 |cons a l ih=>obtain⟨k,c⟩:=a;exact ih _
def Rd.val{α:Type}(m:Rd α)(σ:St):aA α:=(m.run σ []).map (·.1)
theorem j5{α:Type}(m:Rd α)(σ:St):∀l,(m.run σ l).map (·.1)=m.val σ:=by
 induction m with
 |ret a=>intro l;rfl
 |fail=>intro l;rfl
 |get k f ih=>intro l;simp only[Rd.run,Rd.val];rw[ih,ih]
theorem Rd.Im{α:Type}{m:Rd α}{σ:St}{l l':ax aE}{a:α}(h:m.run σ l=ah (a,l')):m.val σ=ah a:=by rw[<-j5 m σ l,h];rfl
@[simp] theorem Rd.ahL {α:Type} (a:α) (σ:St):(Rd.ret a).val σ=some a:=rfl
@[simp] theorem Rd.agx {α:Type} (σ:St):(Rd.fail:Rd α).val σ=none:=rfl
@[simp] theorem Rd.yY {α:Type} (k:Nat) (f:dY->Rd α) (σ:St):(Rd.get k f).val σ=(f (σ k)).val σ:=by
 simp only[Rd.val,Rd.run];exact(j5 (f (σ k)) σ [k])
@[simp] theorem Rd.QQ {α β:Type} (m:Rd α) (f:α->Rd β) (σ:St):(m.bind f).val σ=(m.val σ).bind λa=>(f a).val σ:=by
 induction m with
 |ret a=>rfl
 |fail=>rfl
 |get k g ih=>simp only[Rd.bind,Rd.yY];exact ih _
theorem Rd.bind_some{α β:Type}{m:Rd α}{f:α->Rd β}{σ:St}{b:β}(h:(m.bind f).val σ=ah b):∃a,m.val σ=ah a/\(f a).val σ=ah b:=by rw[Rd.QQ,Option.bind_eq_some_iff]at h;exact h
theorem cj{α:Type}{b:aW}{m:Rd α}{σ:St}{a:α}(h:(bif b then m else Rd.fail).val σ=ah a):b=ai/\m.val σ=ah a:=by
 cases b with
 |true=>exact⟨rfl,h⟩
 |false=>simp at h
def jf(Ch:aE->Prop)(σ:St)(c:eB)(b:aE):Prop:=∃nm o,Ch nm/\σ (cK nm)= .o o/\eN c nm o b
theorem jf.own{Ch:aE->Prop}{σ:St}{c:eB}{b:aE}(h:jf Ch σ c b):vH σ c b:=by obtain⟨nm,o,_,h1,h2⟩:=h;exact⟨nm,o,h1,h2⟩
theorem kU{c c':eB}{nm:aE}{o:Obj}(h:c'.P nm=c.P nm/\c'.G nm=c.G nm)(b:aE):eN c' nm o b=eN c nm o b:=by cases o<;>simp only[eN,h.1,h.2]
theorem Ok.qc{E:Tab}{σ σ':St}{w w':bB}{c c':eB}(h:Ok E σ w c)(Ch:aE->Prop)
  (hσ:∀nm,¬Ch nm->σ' (cK nm)=σ (cK nm)) (iq:∀nm,σ (cK nm)≠ .iU->σ' (cK nm)≠ .iU) (hA:oC σ c c') (hAG:∀nm,¬Ch nm->σ (cK nm)≠ .iU->c'.G nm=c.G nm)
  (hW:∀b,b<w.heap.size->¬jf Ch σ c b->w'.heap[b]? =w.heap[b]?) (fm:w.heap.size<=w'.heap.size)
  (hK:∀b,c.K b->c'.K b) (Rv:∀b,c'.K b->c.K b\/jf Ch σ c b\/w.heap.size<=b) (DG:∀b,c'.K b->b<w'.heap.size)
  (mg:∀nm o,Ch nm->σ' (cK nm)= .o o->oe E w' c' nm o)
  (ot:∀nm o b,Ch nm->σ' (cK nm)= .o o->eN c' nm o b->(jf Ch σ c b\/w.heap.size<=b)/\¬c'.K b)
  (OB:∀nm o uZ o' b,Ch nm->Ch uZ->σ' (cK nm)= .o o->σ' (cK uZ)= .o o'->eN c' nm o b->eN c' uZ o' b->nm=uZ)
  (Ft:∀nm xs,Ch nm->σ' (cK nm)= .o (.box xs)->∀a∈xs,iz σ' a)
  (Ll:w'.os=w.os) (OC:w'.tape=w.tape) (Z0:w'.output=w.output):Ok E σ' w' c'/\nb σ c w σ' c' w':=by
 have JX:∀nm o b,¬Ch nm->σ (cK nm)= .o o->eN c nm o b->¬jf Ch σ c b:=by intro nm o b hc ho hf ⟨fQ,o2,hc2,ho2,hf2⟩;exact hc (h.sep nm o fQ o2 b ho ho2 hf hf2▸hc2)
 have Y8:∀nm o,¬Ch nm->σ' (cK nm)= .o o->σ (cK nm)= .o o/\(c'.P nm=c.P nm/\c'.G nm=c.G nm):=by intro nm o hc ho;rw[hσ nm hc]at ho;exact⟨ho,(hA nm (.inl (by rw[ho];simp))).1,hAG nm hc (by rw[ho];simp)⟩
 have WV:∀b,c.K b->w'.heap[b]? =w.heap[b]? :=λb hb=>hW b (h.lt b hb) (λhi=>h.HQ hi.own hb);have lt:∀nm o b,σ (cK nm)= .o o->eN c nm o b->b<w.heap.size:=λnm o b ho hf=>vH.lt h ⟨nm,o,ho,hf⟩;refine⟨⟨?_, ?_, ?_,DG, ?_,E.gp.fr h.gp WV hK⟩,⟨Ll,OC,Z0,fm,hK, ?_, ?_, ?_⟩⟩
 ·intro nm o ho;by_cases hc:Ch nm
  ·exact mg nm o hc ho
  ·obtain⟨tc,ha⟩:=Y8 nm o hc ho;refine(h.obj nm o tc).frame WV hK (λb hb=>hW b (lt nm o b tc hb) (JX nm o b hc tc hb)) ha ?_;intro xs hx a hm n hn;exact hA n (.inl (h.kn nm xs (hx▸tc) a hm n hn))
 ·intro nm o uZ o' b ho tc hf uP;by_cases hc:Ch nm
  ·by_cases Fo:Ch uZ
   ·exact OB nm o uZ o' b hc Fo ho tc hf uP
   ·obtain⟨h1,ha⟩:=Y8 uZ o' Fo tc;rw[kU ha]at uP;rcases(ot nm o b hc ho hf).1 with hi|hi
    ·exact cw hi (JX uZ o' b Fo h1 uP)
    ·have:=lt uZ o' b h1 uP;omega
  ·obtain⟨h1,ha⟩:=Y8 nm o hc ho;rw[kU ha]at hf;by_cases Fo:Ch uZ
   ·rcases(ot uZ o' b Fo tc uP).1 with hi|hi
    ·exact cw hi (JX nm o b hc h1 hf)
    ·have:=lt nm o b h1 hf;omega
   ·obtain⟨h2,ha'⟩:=Y8 uZ o' Fo tc;rw[kU ha']at uP;exact h.sep nm o uZ o' b h1 h2 hf uP
 ·intro nm o b ho hf;by_cases hc:Ch nm
  ·exact(ot nm o b hc ho hf).2
  ·obtain⟨h1,ha⟩:=Y8 nm o hc ho;rw[kU ha]at hf;intro hk;rcases Rv b hk with h2|h2|h2
   ·exact h.kk nm o b h1 hf h2
   ·exact JX nm o b hc h1 hf h2
   ·have:=lt nm o b h1 hf;omega
 ·intro nm xs ho a hm;by_cases hc:Ch nm
  ·exact Ft nm xs hc ho a hm
  ·obtain⟨h1,_⟩:=Y8 nm _ hc ho;intro n hn;exact iq n (h.kn nm xs h1 a hm n hn)
 ·intro b hb hn;exact hW b hb (λhi=>hn hi.own)
 ·rintro b ⟨nm,o,ho,hf⟩;by_cases hc:Ch nm
  ·exact(ot nm o b hc ho hf).1.imp jf.own id
  ·obtain⟨h1,ha⟩:=Y8 nm o hc ho;rw[kU ha]at hf;exact .inl ⟨nm,o,h1,hf⟩
 ·intro b hb;rcases Rv b hb with h2|h2|h2
  ·exact .inl h2
  ·exact .inr (.inl h2.own)
  ·exact .inr (.inr h2)
theorem Ok.change{E:Tab}{σ σ':St}{w w':bB}{c c':eB}(h:Ok E σ w c)(Ch:aE->Prop)
  (hσ:∀nm,¬Ch nm->σ' (cK nm)=σ (cK nm)) (iq:∀nm,σ (cK nm)≠ .iU->σ' (cK nm)≠ .iU) (hA:iN σ c c')
  (hW:∀b,b<w.heap.size->¬jf Ch σ c b->w'.heap[b]? =w.heap[b]?) (fm:w.heap.size<=w'.heap.size)
  (hK:∀b,c.K b->c'.K b) (Rv:∀b,c'.K b->c.K b\/jf Ch σ c b\/w.heap.size<=b) (DG:∀b,c'.K b->b<w'.heap.size)
  (mg:∀nm o,Ch nm->σ' (cK nm)= .o o->oe E w' c' nm o)
  (ot:∀nm o b,Ch nm->σ' (cK nm)= .o o->eN c' nm o b->(jf Ch σ c b\/w.heap.size<=b)/\¬c'.K b)
  (OB:∀nm o uZ o' b,Ch nm->Ch uZ->σ' (cK nm)= .o o->σ' (cK uZ)= .o o'->eN c' nm o b->eN c' uZ o' b->nm=uZ)
  (Ft:∀nm xs,Ch nm->σ' (cK nm)= .o (.box xs)->∀a∈xs,iz σ' a)
  (Ll:w'.os=w.os) (OC:w'.tape=w.tape) (Z0:w'.output=w.output):Ok E σ' w' c'/\nb σ c w σ' c' w':=
 h.qc Ch hσ iq hA.w (λnm _ hn=>(hA nm (.inl hn)).2) hW fm hK Rv DG mg ot OB Ft Ll OC Z0
theorem Ok.slot{E:Tab}{σ σ':St}{w:bB}{c:eB}(h:Ok E σ w c)(hσ:∀nm,σ' (cK nm)=σ (cK nm)):Ok E σ' w c/\nb σ c w σ' c w:=by
 refine⟨⟨λnm o ho=>h.obj nm o (hσ nm▸ho),λnm o uZ o' b h1 h2=>h.sep nm o uZ o' b (hσ nm▸h1) (hσ uZ▸h2),λnm o b h1=>h.kk nm o b (hσ nm▸h1),h.lt,λnm xs ho a hm n hn=>by rw[hσ];exact h.kn nm xs (hσ nm▸ho) a hm n hn,h.gp⟩,
  ⟨rfl,rfl,rfl,cm _,λ_ h=>h,λ_ _ _=>rfl,λb ⟨nm,o,ho,hf⟩=> .inl ⟨nm,o,hσ nm▸ho,hf⟩,λ_ h=> .inl h⟩⟩
theorem Bs(a:Act)(d:aE)(v:a_)(h:d<a.tmps.size):(a.put (ah d) v).eval (.tmp d)=v:=by simp[Rc,EA,h]
theorem E_(a:Act)(d n:aE)(v:a_)(h:n≠d):(a.put (ah d) v).eval (.tmp n)=a.eval (.tmp n):=by simp only[Rc,EA,dX,mY];rw[bJ (λe=>h e.symm)]
theorem eG.qc{E:Tab}{σ σ':St}{a:Act}{w w':bB}{c c':eB}(h:eG E σ a w c)(b7:Ok E σ w c)(hG:nb σ c w σ' c' w')(hA:oC σ c c')(iq:∀nm,σ (cK nm)≠ .iU->σ' (cK nm)≠ .iU)
  (o:eJ) (v:a_) (hs:∀n,o.dst≠ah n->slot σ' n=slot σ n) (hd:∀d,o.dst=ah d->d<a.tmps.size/\iA E w' c' (slot σ' d) v/\lC σ' (slot σ' d)):eG E σ' (a.put o.dst v) w' c':=by
 have keep:∀n,iA E w' c' (slot σ n) (a.eval (.tmp n)):=λn=>(h.ok n).nR (hG.Vu b7) hG.K (λm hm=>hA m (.inl (h.kn n m hm)));have WU:∀n,lC σ' (slot σ n):=λn m hm=>iq m (h.kn n m hm);cases ho:o.dst with
 |none=>
  refine⟨λn=> ?_,λn=> ?_,h.df⟩
  ·rw[hs n (by simp[ho])];exact keep n
  ·rw[hs n (by simp[ho])];exact WU n
 |some d=>
  obtain⟨h1,h2,h3⟩:=hd d ho;refine⟨λn=> ?_,λn=> ?_,h.df⟩
  ·by_cases hn:n=d
   ·subst hn;rw[Bs a n v h1];exact h2
   ·rw[E_ a d n v hn,hs n (by rw[ho];simpa using λe=>hn e.symm)];exact keep n
  ·by_cases hn:n=d
   ·subst hn;exact h3
   ·rw[hs n (by rw[ho];simpa using λe=>hn e.symm)];exact WU n
theorem eG.change{E:Tab}{σ σ':St}{a:Act}{w w':bB}{c c':eB}(h:eG E σ a w c)(b7:Ok E σ w c)(hG:nb σ c w σ' c' w')(hA:iN σ c c')(iq:∀nm,σ (cK nm)≠ .iU->σ' (cK nm)≠ .iU)
  (o:eJ) (v:a_) (hs:∀n,o.dst≠ah n->slot σ' n=slot σ n) (hd:∀d,o.dst=ah d->d<a.tmps.size/\iA E w' c' (slot σ' d) v/\lC σ' (slot σ' d)):eG E σ' (a.put o.dst v) w' c':=
 h.qc b7 hG hA.w iq o v hs hd
theorem oz(σ:St)(o:eJ)(v:SV):(∀n,o.dst≠ah n->slot (wr σ (dw o v)) n=slot σ n)/\(∀d,o.dst=ah d->slot (wr σ (dw o v)) d=v)/\∀nm,wr σ (dw o v) (cK nm)=σ (cK nm):=by
 cases ho:o.dst with
 |none=>simp[dw,ho,wr]
 |some d=>
  refine⟨λn hn=> ?_,λd' hd=> ?_,λnm=> ?_⟩
  ·simp only[dw,ho,wr];rw[vk,bJ (by rintro rfl;exact hn rfl)]
  ·cases hd;simp only[dw,ho,wr];rw[vk,bu rfl]
  ·simp only[dw,ho,wr];exact Gq _ _ _ _
end Go.FG

namespace Go.FG
def gP:Ck->a_
 | .i k=> .int k 0| .b=> .bool ak| .s=> .string ⟨#[]⟩| .l _=> .slice aj 0 0| .o=> .nilIface
def kI:AV->a_
 | .i k n=> .int k n| .b x=> .bool x| .s x=> .string x|_=> .nilIface
structure dS (P:cL) (E:Tab):Prop where
 info:∀t ti,E.ty t=ah ti->∃inf,P.info? t=ah inf/\inf.size=ti.ks.length/\inf.bytes=ti.bytes/\0<ti.ks.length/\
  (JW ti.ks=ai->∃z,inf.zero=ah z/\z.cells=(ti.ks.map gP).toArray/\(ti.agg=ai->z= .agg (ti.ks.map gP).toArray))
 desc:∀t ti,E.ty t=ah ti->∃d,P.underlying t=ah d/\
  (ti.agg=ai->∃fs,d= .struct fs/\∀f o n,E.fo t f=ah (o,n)->∃fd,fs[f]? =ah fd/\fd.offset=o/\(P.info? fd.type).map (·.size)=ah n/\n≠0/\o+n<=ti.ks.length)/\
  (ti.agg=ak->(∃k,ti.ks=[.i k]/\d= .int k)\/(ti.ks=[.b]/\d= .bool)\/(ti.ks=[.s]/\d= .string)\/(∃e,ti.ks=[.l e]/\d= .slice e)\/
   (ti.ks=[.o]/\(match d with| .struct _| .array _ _=>ak|_=>ai)=ai))
 fo:∀t f o n,E.fo t f=ah (o,n)->∃ti,E.ty t=ah ti/\ti.agg=ai
 pl:∀t ti,E.ty t=ah ti->ti.agg=ai->∀fs,P.underlying t=ah (.struct fs)->∃pl,fs.toList.mapM (λf=>(P.info? f.type).map λi=>(f.offset,i.size))=ah pl/\∀f o n,E.fo t f=ah (o,n)->pl[f]? =ah (o,n)
 eq:∀t ti,lx t E.eqs=ai->E.ty t=ah ti->∀(w:bB) (x y:c5) (xs ys:ax AV) (r:aW),SK xs ys=ah r->xs.map DO=ti.ks->ys.map DO=ti.ks->
  (do eqGuard .eql t x y (.agg (xs.map kI).toArray) (.agg (ys.map kI).toArray);binOp .eql t (.agg (xs.map kI).toArray) (.agg (ys.map kI).toArray)).run P w= .ok (.bool r) w/\
  (do eqGuard .neq t x y (.agg (xs.map kI).toArray) (.agg (ys.map kI).toArray);binOp .neq t (.agg (xs.map kI).toArray) (.agg (ys.map kI).toArray)).run P w= .ok (.bool !r) w
 fl:∀t f,E.Oe t f=ai->∀fs fd,P.underlying t=ah (.struct fs)->fs[f]? =ah fd->∀w,(Go.isAgg fd.type).run P w= .ok ak w
theorem B9{v:a_}(h:v.oneCell'=ai):v.cells= #[v]:=by cases v<;>simp_all [Value.cells,Value.oneCell']
theorem dP.one{E:Tab}{w:bB}{c:eB}{a:AV}{v:a_}(h:dP E w c a v):v.oneCell'=true:=by
 cases a with
 |i=>cases h;rfl
 |b=>cases h;rfl
 |s=>cases h.1;rfl
 |nl=>cases h;rfl
 |sh e xs=>cases h<;>rfl
 |own n=>cases h;unfold mf;split<;>rfl
 |vw n lo hi=>
  obtain⟨_,_,h1,h2⟩:=h;by_cases hn:(c.P n).nil=ai
  ·rw[h1 hn];rfl
  ·rcases h2 (by simpa using hn)with ⟨_,h⟩|⟨_,o,_,h⟩<;>rw[h]<;>rfl
 |bp n j=>cases h;rfl
 |rp n i j=>rw[h.2];rfl
 |sp e xs i j=>obtain⟨_,_,_,_,_,_,_,h⟩:=h;rw[h];rfl
 |inn n i j=>rw[h.1.2];unfold mf;split<;>rfl
 |ip n i j i2 j2=>rw[h.1.2.2];rfl
 |iv n i j lo hi=>
  obtain⟨⟨_,_,_,h1,h2⟩,_⟩:=h;by_cases hn:(c.G n i j).nil=ai
  ·rw[h1 hn];rfl
  ·rcases h2 (by simpa using hn)with ⟨_,h⟩|⟨_,o,_,h⟩<;>rw[h]<;>rfl
 |fn f g7=>obtain⟨ps,h,_⟩:=h;rw[h];rfl
 |fp cs j=>obtain⟨b,h,_⟩:=h;rw[h];rfl
section
variable {P:cL} (w:bB)
theorem Addr.mS(b o i:aE):(ad b o).add i=ad b (o+i):=by unfold Yy ad;split<;>simp_all
theorem BF(b o:aE):∀(vs:ax a_) (i:aE) (w:bB) (cur:c_ a_),oX w b cur->o+i+vs.length<=cur.size->(∀v∈vs,v.oneCell'=ai)->
  (storeCells (ad b o) vs i).run P w= .ok () (w.setRow b (cur.toList.take (o+i)++vs++cur.toList.drop (o+i+vs.length)).toArray):=by
 intro vs;induction vs with
 |nil=>intro i w cur hb _ _;obtain⟨t,fr,hg,hf⟩:=hb;simp only[storeCells,dH,iT,uf,List.take_append_drop,r_];rw[setRow_self w b cur t fr hg];rfl
 |cons v rest ih=>
  intro i w cur hb hl h1;have hi:o+i<cur.size:=by simp at hl;omega
  have ak3:=hb.free hi;obtain⟨t,fr,hg,hf⟩:=hb;have hcell:w.cell? (ad b (o+i))=ah cur[o+i]:=by simp[World.cell?,hg,hi]
  have Lq:(store ((ad b o).add i) v).run P w= .ok () (w.setRow b (cur.setIfInBounds (o+i) v)):=by rw[Addr.mS,run_store P w _ v _ (h1 v (by simp)),hcell];simp[ak3,setCell_eq_setRow w b (o+i) cur t fr v hg]
  have S3:oX (w.setRow b (cur.setIfInBounds (o+i) v)) b (cur.setIfInBounds (o+i) v):=⟨t,fr,setRow_heap w b cur _ t fr hg,by simpa using hf⟩
  have ih':=ih (i+1) (w.setRow b (cur.setIfInBounds (o+i) v)) (cur.setIfInBounds (o+i) v) S3 (by simp at hl⊢;omega) (λx hx=>h1 x (by simp[hx]));simp only[storeCells,b8,Lq,bn,ih',setRow_setRow];congr 3;have e:=list_seg_step cur.toList (o+i) v rest (by simp at hl⊢;omega);simpa [Array.toList_setIfInBounds,sb]using e
def iJ(cur:c_ a_)(o:aE)(vs:ax a_):c_ a_:=(cur.toList.take o++vs++cur.toList.drop (o+vs.length)).toArray
theorem jc{cur:c_ a_}{o:aE}{vs:ax a_}(h:o+vs.length<=cur.size):(iJ cur o vs).size=cur.size:=by simp[iJ];omega
theorem mn{cur:c_ a_}{o:aE}{vs:ax a_}(h:o+vs.length<=cur.size)(k:aE):
  (iJ cur o vs)[k]? =if o<=k/\k<o+vs.length then vs[k-o]? else cur[k]? :=by
 simp only[iJ,gg];by_cases h1:k<o
 ·rw[bJ (by omega),cf,dB (by simp;omega),d_,bu h1];simp
 ·by_cases h2:k<o+vs.length
  ·rw[bu ⟨by omega,h2⟩,cf,cW (by simp;omega),dB (by simp;omega)];congr 1;simp;omega
  ·rw[bJ (by omega),cf,cW (by simp;omega),cW (by simp;omega),dN];simp only[cC];congr 1;simp;omega
theorem oU{b o:aE}{vs:ax a_}{cur:c_ a_}(hb:oX w b cur)(hl:o+vs.length<=cur.size)(h1:∀v∈vs,v.oneCell'=ai):
  (storeCells (ad b o) vs).run P w= .ok () (w.setRow b (iJ cur o vs)):=by have:=BF (P:=P) b o vs 0 w cur hb (by simpa using hl) h1;simpa [iJ]using this
theorem oX.setRow{w:bB}{b:aE}{cur new:c_ a_}(h:oX w b cur)(hs:new.size=cur.size):oX (w.setRow b new) b new:=by obtain⟨t,fr,hg,hf⟩:=h;exact⟨t,fr,setRow_heap w b cur new t fr hg,by rw[hs];exact hf⟩
theorem oX.alloc(w:bB)(cs:c_ a_)(t:TypeId):oX (w.alloc (.cells cs t)) w.heap.size cs:=
 ⟨t,(0,0),heap_alloc_new w _,λo _=>by simp⟩
theorem vg{b o:aE}{cs:ax a_}(h:∀j v,cs[j]? =ah v->w.cell? (ad b (o+j))=ah v):(loadCells (ad b o) cs.length).run P w= .ok cs.toArray w:=
 run_loadCells_list w (ad b o) cs (λj v hj=>by rw[Addr.mS];exact h j v hj)
theorem AH{E:Tab}(hE:dS P E){t:aE}{ti:TI}(ht:E.ty t=ah ti){b o:aE}{cs:ax a_}(hl:cs.length=ti.ks.length)(h:∀j v,cs[j]? =ah v->w.cell? (ad b (o+j))=ah v):
  (vT t (.pointer (ah (ad b o)))).run P w= .ok (if ti.agg=ai then .agg cs.toArray else cs.headD .nilIface) w:=by
 obtain⟨inf,hi,fm,_,mh,_⟩:=hE.info t ti ht;obtain⟨d,hd,ha,hn⟩:=hE.desc t ti ht;cases sw:ti.agg with
 |true=>obtain⟨fs,rfl,_⟩:=ha sw;have hr:=vg (P:=P) w (b:=b) (o:=o) h;simp only[vT,sN,loadVar,isAgg,b8,run_underlying hd,cB,bn,if_true,sizeOf,typeInfo,program,nA,hi,fm,<-hl,hr]
 |false=>
  have Fx:∃k,ti.ks=[k]:=by rcases hn sw with ⟨k,h,_⟩|⟨h,_⟩|⟨h,_⟩|⟨e,h,_⟩|⟨h,_⟩<;>exact⟨_,h⟩
  obtain⟨k,hk⟩:=Fx;rw[hk]at hl;obtain⟨v,rfl⟩:=f_.1 hl;have hc:=h 0 v rfl;simp only[uf]at hc;have as3:(match d with| .struct _| .array _ _=>ai|_=>ak)=false:=by
   rcases hn sw with ⟨k,_,rfl⟩|⟨_,rfl⟩|⟨_,rfl⟩|⟨e,_,rfl⟩|⟨_,h⟩
   ·rfl
   ·rfl
   ·rfl
   ·rfl
   ·cases d<;>simp_all
  have akM:(isAgg t).run P w= .ok ak w:=by simp only[isAgg,b8,run_underlying hd,bn];cases d<;>simp_all
  simp only[vT,sN,loadVar,b8,cB,bn,akM,cU,if_false,run_load,hc,List.headD]
theorem Ge{E:Tab}(hE:dS P E){t:aE}{ti:TI}(ht:E.ty t=ah ti){b o:aE}{v:a_}{cur:c_ a_}(hl:v.cells.size=ti.ks.length)(hb:oX w b cur)(hf:o+v.cells.size<=cur.size)(h1:∀u∈v.cells.toList,u.oneCell'=ai):
  (R3 t (.pointer (ah (ad b o))) v).run P w= .ok () (w.setRow b (iJ cur o v.cells.toList)):=by obtain⟨inf,hi,fm,_⟩:=hE.info t ti ht;have hr:=oU (P:=P) w hb (o:=o) (vs:=v.cells.toList) (by simpa using hf) h1;simp only[R3,sN,storeVar,b8,cB,bn,sizeOf,typeInfo,program,nA,hi,fm,hl,ne_eq,not_true_eq_false,if_false,hr]
theorem L0{E:Tab}(hE:dS P E){t:aE}{ti:TI}(ht:E.ty t=ah ti)(ho:JW ti.ks=ai):
  (Yz t ai (.tuple #[])).run P w= .ok (.pointer (ah (ad w.heap.size 0))) (w.alloc (.cells (ti.ks.map gP).toArray t)):=by obtain⟨inf,hi,fm,_,_,hz⟩:=hE.info t ti ht;obtain⟨z,HF,Bz,_⟩:=hz ho;simp only[Yz,b8,zeroValue,typeInfo,program,nA,hi,bn,cB,HF,newVar,newRow,newObj,Bz];rfl
theorem Qf(t:aE)(v:a_):(Instr.box t v).run P w= .ok (.pointer (ah (ad w.heap.size 0))) (w.alloc (.cells v.cells t)):=by simp only[Instr.box,b8,newVar,newRow,newObj,nA,bn,cB];rfl
theorem Ga{E:Tab}(hE:dS P E){t f off n:aE}(hf:E.fo t f=ah (off,n))(b o:aE):
  (R0 t (.pointer (ah (ad b o))) f).run P w= .ok (.pointer (ah (ad b (o+off)))) w:=by
 obtain⟨ti,ht,sw⟩:=hE.fo t f off n hf;obtain⟨d,hd,ha,_⟩:=hE.desc t ti ht;obtain⟨fs,rfl,Rz⟩:=ha sw;obtain⟨fd,h1,h2,h3,h4,_⟩:=Rz f off n hf;cases hq:P.info? fd.type with
 |none=>simp[hq]at h3
 |some inf=>
  have hs:inf.size=n:=by simpa [hq]using h3
  have iq:¬inf.size=0:=by omega
  simp only[R0,b8,run_underlying hd,bn,h1,sN,cB,fieldPlace,sizeOf,typeInfo,program,nA,hq,bJ iq,lW,Addr.mS,h2]
theorem nP{E:Tab}(hE:dS P E){t e:aE}{ti:TI}(ht:E.ty t=ah ti)(sw:ti.agg=ak)(hk:ti.ks=[.l e]):P.underlying t=ah (.slice e):=by obtain⟨d,hd,_,hn⟩:=hE.desc t ti ht;rcases hn sw with ⟨k,h,_⟩|⟨h,_⟩|⟨h,_⟩|⟨e',h,rfl⟩|⟨h,_⟩<;>rw[hk]at h<;>simp_all
theorem Gb{E:Tab}(hE:dS P E){t e:aE}{te:TI}(hu:P.underlying t=ah (.slice e))(he:E.ty e=ah te)(b o n c:aE)(k:l_)(i:az)(h0:0<=i)(h1:i<n):
  (R2 t (.slice (ah (ad b o)) n c) (.int k i)).run P w= .ok (.pointer (ah (ad b (o+i.toNat*te.ks.length)))) w:=by obtain⟨inf,hi,fm,_⟩:=hE.info e te he;simp only[R2,asIntOf,b8,cB,bn,run_underlying hu,h0,h1,and_self,if_true,sizeOf,typeInfo,program,nA,hi,fm,Addr.mS]
end
end Go.FG

namespace Go.FG
section
variable {P:cL} {E:eP} {σ:St} {a:Act} {w:bB} {c:eB}
theorem kX(di:eG E σ a w c){x:c5}{v:SV}(h:(DX x).val σ=ah v):iA E w c v (a.eval x)/\lC σ v:=by
 cases x with
 |tmp t=>
  simp only[DX,Rd.yY]at h;cases hc:σ (oW t)with
  |v x=>rw[hc]at h;obtain rfl:=aD h;have h1:=di.ok t;have h2:=di.kn t;simp only[slot,hc]at h1 h2;exact⟨h1,h2⟩
  |o x=>rw[hc]at h;simp at h;subst h;exact⟨trivial,λn hn=>by simp[ch]at hn⟩
  |iU=>rw[hc]at h;simp at h;subst h;exact⟨trivial,λn hn=>by simp[ch]at hn⟩
 |const v'=>
  obtain rfl:=aD h;refine⟨?_, ?_⟩
  ·show iA E w c (cst v') v';unfold cst;split;case h_3 x=>
    cases hd:eL x.size 4611686018427387904 with
    |true=>exact⟨rfl,cu hd⟩
    |false=>exact trivial
   all_goals first|trivial|rfl
  ·unfold cst;intro n hn;split at hn;case h_3 x=>
    cases hd:eL x.size 4611686018427387904 with
    |true=>simp[hd,ch,bw]at hn
    |false=>simp[hd,ch]at hn
   all_goals simp[ch,bw]at hn
 |global g=>simp[DX]at h
 |func f=>obtain rfl:=aD h;exact⟨⟨#[],rfl,rfl,λq cs hq=>by simp at hq⟩,λn hn=>by simp[ch,bw]at hn⟩
theorem ij(di:eG E σ a w c){x:c5}{v:AV}(h:(ql x).val σ=ah v):dP E w c v (a.eval x)/\iz σ v:=by
 obtain⟨s,h1,h2⟩:=Rd.bind_some h;obtain⟨h3,h4⟩:=kX di h1;split at h2
 ·obtain rfl:=aD h2;exact⟨h3,λn hn=>h4 n (by simpa [ch]using hn)⟩
 ·simp at h2
theorem ox(di:eG E σ a w c){x:c5}{k:l_}{n:az}(h:(Ao x).val σ=ah (k,n)):a.eval x= .int k n:=by
 obtain⟨s,h1,h2⟩:=Rd.bind_some h;obtain⟨h3,_⟩:=ij di h1;split at h2
 ·simp at h2;obtain⟨rfl,rfl⟩:=h2;exact h3
 ·simp at h2
theorem cY{nm:aE}{x:Obj}(h:(iE nm).val σ=ah x):σ (cK nm)= .o x:=by
 simp only[iE,Rd.yY]at h;split at h
 ·rename_i y hy;simp at h;subst h;exact hy
 ·simp at h
theorem dC{t:aE}{ti:TI}(h:(qs E t).val σ=ah ti):E.ty t=ah ti:=by
 unfold qs at h;split at h
 ·simp at h;subst h;assumption
 ·simp at h
theorem jF{nm:aE}{u:Unit}(h:(fresh nm).val σ=ah u):σ (cK nm)= .iU/\nm<900000000:=by
 simp only[fresh,Rd.yY]at h;split at h
 ·rename_i hy;obtain⟨h1,_⟩:=cj h;exact⟨hy,by have:=cu h1;omega⟩
 ·simp at h
def fT(P:cL)(E:eP)(σ:St)(a:Act)(w:bB)(c:eB)(o:eJ)(ws:ax (aE×dY)):Prop:=
 ∀(K:Act->bB->Prop) (Q:Exit->Act->bB->Prop),
  (∀v w' c',Ok E (wr σ ws) w' c'->eG E (wr σ ws) (a.put o.dst v) w' c'->nb σ c w (wr σ ws) c' w'->oC σ c c'->K (a.put o.dst v) w')->o.wp P a w K Q
theorem vx{o:eJ}{v:a_}{w':bB}{K:Act->bB->Prop}{Q:Exit->Act->bB->Prop}(hr:(execOp a.eval o).run P w= .ok (.value v) w')(hK:K (a.put o.dst v) w'):o.wp P a w K Q:=by unfold KN;rw[hr];exact hK
theorem uc{o:eJ}{w':bB}{K:Act->bB->Prop}{Q:Exit->Act->bB->Prop}(hr:(execOp a.eval o).run P w= .ok .skip w')(hK:K (a.put o.dst undef) w'):o.wp P a w K Q:=by unfold KN;rw[hr];exact hK
theorem iN.refl(σ:St)(c:eB):iN σ c c:=λ_ _=>⟨rfl,rfl⟩
theorem e9(b7:Ok E σ w c)(di:eG E σ a w c){o:eJ}(hd:∀d,o.dst=ah d->d<a.tmps.size){s:SV}{v:a_}
  (hs:iA E w c s v) (hk:lC σ s) (hr:(execOp a.eval o).run P w= .ok (.value v) w):fT P E σ a w c o (dw o s):=by
 intro K Q hK;obtain⟨s1,s2,s3⟩:=oz σ o s;obtain⟨h1,h2⟩:=b7.slot s3;refine vx hr (hK v w c h1 ?_ h2 (iN.refl _ _).w);refine di.change b7 h2 (iN.refl _ _) (λnm hn=>by rw[s3];exact hn) o v s1 (λd ho=>⟨hd d ho, ?_, ?_⟩)
 ·rw[s2 d ho];exact hs
 ·rw[s2 d ho];intro n hn;rw[s3];exact hk n hn
theorem zU(b7:Ok E σ w c)(di:eG E σ a w c){o:eJ}(hd:∀d,o.dst=ah d->d<a.tmps.size){nm:aE}{ob:Obj}{s:SV}{v:a_}{w':bB}{p:Pl}{g:aE->aE->Pl}
  (hn:σ (cK nm)= .iU) (ji:nm<900000000)
  (mg:∀c':eB,c'.P nm=p->c'.G nm=g->(∀b,c.K b->c'.K b)->iN σ c c'->oe E w' c' nm ob)
  (ot:∀c':eB,c'.P nm=p->c'.G nm=g->∀b,eN c' nm ob b->w.heap.size<=b)
  (Ft:∀xs,ob= .box xs->∀a∈xs,iz σ a)
  (vK:∀c':eB,c'.P nm=p->c'.G nm=g->iA E w' c' s v) (Bw:∀n∈ch s,n=nm\/σ (cK n)≠ .iU)
  (hW:∀b,b<w.heap.size->w'.heap[b]? =w.heap[b]?) (fm:w.heap.size<=w'.heap.size) (Ll:w'.os=w.os) (Th:w'.tape=w.tape) (S_:w'.output=w.output)
  (hr:(execOp a.eval o).run P w= .ok (.value v) w'):fT P E σ a w c o ((cK nm, .o ob)::dw o s):=by
 intro K Q hK;let c':eB:=⟨λn=>if n=nm then p else c.P n,λn=>if n=nm then g else c.G n,c.K⟩
 have hP:c'.P nm=p:=bu rfl;have hG:c'.G nm=g:=bu rfl;have hA:iN σ c c':=λm hm=>by
  have:m≠nm:=by rintro rfl;rcases hm with h|h;exact h hn;omega
  exact⟨bJ this,bJ this⟩
 let σ1:=nG σ (cK nm) (.o ob);obtain⟨s1,s2,s3⟩:=oz σ1 o s;have key:∀m,wr σ1 (dw o s) (cK m)=if m=nm then .o ob else σ (cK m):=λm=>by rw[s3];exact nv _ _ _ _
 have iq:∀m,σ (cK m)≠ .iU->wr σ1 (dw o s) (cK m)≠ .iU:=λm hm=>by rw[key];split<;>simp_all
 have hh:=b7.change (σ':=wr σ1 (dw o s)) (w':=w') (c':=c') (λm=>m=nm) (λm hm=>by rw[key,bJ hm]) iq hA
  (λb hb _=>hW b hb) fm (λ_ h=>h) (λ_ h=> .inl h) (λb hb=>gF (b7.lt b hb) fm)
  (λm x hm ho=>by subst hm;rw[key,bu rfl]at ho;cases ho;exact mg c' hP hG (λ_ h=>h) hA)
  (λm x b hm ho hf=>by subst hm;rw[key,bu rfl]at ho;cases ho;have:=ot c' hP hG b hf;exact⟨.inr this,λhk=>by have:=b7.lt b hk;omega⟩)
  (λm x m' x' b hm uQ _ _ _ _=>by rw[hm,uQ])
  (λm xs hm ho y hy n jG=>by subst hm;rw[key,bu rfl]at ho;cases ho;exact iq n (Ft xs rfl y hy n jG)) Ll Th S_
 refine vx hr (hK v w' c' hh.1 ?_ hh.2 hA.w);refine di.change b7 hh.2 hA iq o v (λn jG=>by rw[s1 n jG];exact gY _ _ _ _) (λd ho=>⟨hd d ho, ?_, ?_⟩)
 ·show iA E w' c' (slot (wr σ1 (dw o s)) d) v;rw[s2 d ho];exact vK c' hP hG
 ·show lC (wr σ1 (dw o s)) (slot (wr σ1 (dw o s)) d);rw[s2 d ho];intro n jG;rw[key];split
  ·simp
  ·rename_i h;exact(Bw n jG).resolve_left h
theorem rK(b7:Ok E σ w c)(di:eG E σ a w c){o:eJ}(hd:∀d,o.dst=ah d->d<a.tmps.size){nm:aE}{ob ob':Obj}{s:SV}{v:a_}{w':bB}
  (hn:σ (cK nm)= .o ob) (mg:oe E w' c nm ob') (ot:∀b,eN c nm ob' b->eN c nm ob b)
  (Ft:∀xs,ob'= .box xs->∀a∈xs,iz σ a)
  (vK:iA E w' c s v) (Bw:lC σ s)
  (hW:∀b,b<w.heap.size->¬eN c nm ob b->w'.heap[b]? =w.heap[b]?) (fm:w.heap.size<=w'.heap.size) (Ll:w'.os=w.os) (Th:w'.tape=w.tape) (S_:w'.output=w.output)
  (hr:(execOp a.eval o).run P w= .ok (.value v) w'\/((execOp a.eval o).run P w= .ok .skip w'/\v=undef)):fT P E σ a w c o ([(cK nm, .o ob')]++dw o s):=by
 intro K Q hK;let σ1:=nG σ (cK nm) (.o ob');obtain⟨s1,s2,s3⟩:=oz σ1 o s;have key:∀m,wr σ1 (dw o s) (cK m)=if m=nm then .o ob' else σ (cK m):=λm=>by rw[s3];exact nv _ _ _ _
 have iq:∀m,σ (cK m)≠ .iU->wr σ1 (dw o s) (cK m)≠ .iU:=λm hm=>by rw[key];split<;>simp_all
 have gO:∀b,eN c nm ob b->jf (λm=>m=nm) σ c b:=λb hb=>⟨nm,ob,rfl,hn,hb⟩
 have hh:=b7.change (σ':=wr σ1 (dw o s)) (w':=w') (c':=c) (λm=>m=nm) (λm hm=>by rw[key,bJ hm]) iq (iN.refl _ _)
  (λb hb Ov=>hW b hb (λhf=>Ov (gO b hf))) fm (λ_ h=>h) (λ_ h=> .inl h) (λb hb=>gF (b7.lt b hb) fm)
  (λm x hm ho=>by subst hm;rw[key,bu rfl]at ho;cases ho;exact mg)
  (λm x b hm ho hf=>by subst hm;rw[key,bu rfl]at ho;cases ho;exact⟨.inl (gO b (ot b hf)),b7.kk _ _ b hn (ot b hf)⟩)
  (λm x m' x' b hm uQ _ _ _ _=>by rw[hm,uQ])
  (λm xs hm ho y hy n jG=>by subst hm;rw[key,bu rfl]at ho;cases ho;exact iq n (Ft xs rfl y hy n jG)) Ll Th S_
 have adR:eG E (wr σ1 (dw o s)) (a.put o.dst v) w' c:=by
  refine di.change b7 hh.2 (iN.refl _ _) iq o v (λn jG=>by rw[s1 n jG];exact gY _ _ _ _) (λd ho=>⟨hd d ho, ?_, ?_⟩)
  ·rw[s2 d ho];exact vK
  ·rw[s2 d ho];intro n jG;rw[key];split
   ·simp
   ·exact Bw n jG
 rcases hr with hr|⟨hr,rfl⟩
 ·exact vx hr (hK v w' c hh.1 adR hh.2 (iN.refl _ _).w)
 ·exact uc hr (hK undef w' c hh.1 adR hh.2 (iN.refl _ _).w)
end
end Go.FG

namespace Go.FG
theorem Zm:∀{x y:Ck},ckB x y=ai->x=y:=by intro x y h;cases x<;>cases y<;>simp[ckB]at h<;>first|rfl|(subst h;rfl)|(have:=aQ h;subst this;rfl)
theorem qd:∀{a b:ax Ck},oN a b=ai->a=b
 |[],[],_=>rfl
 |[],_::_,h=>by simp[oN]at h
 |_::_,[],h=>by simp[oN]at h
 |x::l,y::r,h=>by
  simp only[oN,aF]at h;rw[Zm h.1,qd h.2]
structure akw (E:eP) (w:bB) (K:aE->Prop) (b o n c e:aE) (xs:aU) (ti:TI) (U:aE->aE->a_):Prop where
 nn:n=xs.length
 ty:E.ty e=ah ti
 cap:xs.length<=c
 mx:c<=maxLen
 kb:K b
 sh:∀y∈xs,y.map CV.kd=ti.ks
 cell:∀i j y x,xs[i]? =ah y->y[j]? =ah x->w.cell? (ad b (o+i*ti.ks.length+j))=ah (U i j)
 inn:∀i j y x,xs[i]? =ah y->y[j]? =ah x->cQ E w K (U i j) x
theorem cQ.FI{E:eP}{w:bB}{K:aE->Prop}{b o n c e:aE}{xs:aU}(h:cQ E w K (.slice (ah (ad b o)) n c) (.l e xs))(hn:0<xs.length):∃ti U,akw E w K b o n c e xs ti U:=by
 generalize hv:YB (ah (ad b o)) n c=v at h;generalize hx:CV.l e xs=x at h;cases h with
 |i=>cases hx
 |b=>cases hx
 |s=>cases hx
 |nl=>cases hx;simp at hn
 |l e xs b o c ti U ht hc hm hK hs hcell gO=>cases hx;cases hv;exact⟨ti,U,rfl,ht,hc,hm,hK,hs,hcell,gO⟩
theorem Hb{E:eP}{w:bB}{c:eB}{u:a_}{x:CV}(h:cQ E w c.K u x):dP E w c (dec x.kd x) u:=by
 cases x with
 |i k n=>cases h;rfl
 |b=>cases h;rfl
 |s=>cases h with|s _ ho=>exact⟨rfl,ho⟩
 |l e xs=>exact h
theorem JZ{E:eP}{w:bB}{c:eB}{u:a_}{x:CV}(h:cQ E w c.K u x):dP E w c (Ux x) u:=by
 cases x with
 |i k n=>cases h;rfl
 |b=>cases h;rfl
 |s=>cases h with|s _ ho=>exact⟨rfl,ho⟩
 |l e xs=>exact h
theorem nN{E:eP}{w:bB}{c:eB}{u:a_}{x:CV}(hl:sW x=ak)(h:Sc u x):dP E w c (dec x.kd x) u:=by
 cases x with
 |i=>exact h.1
 |b=>exact h.1
 |s=>exact h
 |l=>simp[sW]at hl
theorem LD(k:Ck)(x:CV):bw (dec k x)=[]:=by cases k<;>rfl
theorem Ah(x:CV):bw (Ux x)=[]:=by cases x<;>rfl
theorem kC(xs:aU)(i:aE):∀(ks:ax Ck) (j q:aE),(sU xs i j ks)[q]? =(ks[q]?).map λk=>dec k (ar xs i (j+q)):=by
 intro ks;induction ks with
 |nil=>intro j q;simp[sU]
 |cons k ks ih=>
  intro j q;cases q with
  |zero=>simp[sU]
  |succ q=>simp only[sU,dy,ih];congr 2;funext k;congr 2;omega
theorem E3(nm:aE)(xs:aU)(i:aE):∀(ks:ax Ck) (j q:aE),(yt nm xs i j ks)[q]? =(ks[q]?).map λk=>match k with| .l _=>AV.inn nm i (j+q)|k=>dec k (ar xs i (j+q)):=by
 intro ks;induction ks with
 |nil=>intro j q;simp[yt]
 |cons k ks ih=>
  intro j q;cases q with
  |zero=>cases k<;>simp[yt]
  |succ q=>
   have e:j+1+q=j+(q+1):=by omega
   cases k<;>simp only[yt,dy,ih,e]
theorem ew{xs:aU}{i j:aE}{y:ax CV}{x:CV}(hi:xs[i]? =ah y)(hj:y[j]? =ah x):ar xs i j=x:=by simp[ar,jm,hi,hj]
theorem jI(xs:aU)(i:aE):∀(ks:ax Ck) (j:aE),(sU xs i j ks).length=ks.length:=by
 intro ks;induction ks with
 |nil=>intro j;rfl
 |cons k ks ih=>intro j;simp[sU,ih]
theorem xH(nm:aE)(xs:aU)(i:aE):∀(ks:ax Ck) (j:aE),(yt nm xs i j ks).length=ks.length:=by
 intro ks;induction ks with
 |nil=>intro j;rfl
 |cons k ks ih=>intro j;cases k<;>simp[yt,ih]
theorem pz{ks ks2:ax Ck}{j:aE}{y:ax CV}(hy:y.map CV.kd=ks)(h:(ks.drop j).take ks2.length=ks2){q:aE}(hq:q<ks2.length):∃x,y[j+q]? =ah x/\ks2[q]? =ah x.kd:=by
 have h1:ks2[q]? =ks[j+q]? :=by rw[<-h,d_,bu hq,dN]
 rw[<-hy,bz]at h1;cases hx:y[j+q]? with
 |none=>rw[hx]at h1;simp at h1;omega
 |some x=>exact⟨x,rfl,by rw[h1,hx];rfl⟩
section
variable {P:cL} {E:eP} {σ:St} {a:Act} {w:bB} {c:eB}
theorem py{p:Pl}{G:aE->aE->Pl}{xs:aU}{ks:ax Ck}{i j e2:aE}(fN:im w p xs (λi j u x=>if ai=ai then XC E w G i j u x else cQ E w c.K u x))(lK:∀y∈xs,y.map CV.kd=ks)(hi:i<p.n)(hk:ks[j]? =ah (.l e2)):
  ∃ys y,xs[i]? =ah y/\y[j]? =ah (.l e2 ys)/\∃u,XC E w G i j u (.l e2 ys):=by
 have km:i<xs.length:=by rw[<-fN.n];exact hi
 have hy:xs[i]? =ah xs[i]:=by simp[km]
 have h1:=lK xs[i] (bD km);rw[<-h1,bz]at hk;cases hx:xs[i][j]? with
 |none=>rw[hx]at hk;cases hk
 |some x=>
  rw[hx]at hk;cases x with
  |l e ys=>
   cases hk;have iu:p.nil=false:=by
    cases hn:p.nil with
    |false=>rfl
    |true=>have:=(fN.nil hn).1;subst this;simp at km
   obtain⟨vals,_,_,_,_,nT⟩:=fN.mem iu;obtain⟨u,_,hr⟩:=nT i _ j _ hy hx;rw[bu rfl]at hr;exact⟨ys,_,hy,hx,u,hr⟩
  |i=>cases hk
  |b=>cases hk
  |s=>cases hk
theorem ic{ks:ax Ck}(h:plain ks=ai){y:ax CV}(hy:y.map CV.kd=ks){j:aE}{x:CV}(hx:y[j]? =ah x):sW x=false:=by
 have h1:x.kd∈ks:=by rw[<-hy];exact cO.2 ⟨x,aP hx,rfl⟩
 have h2:=bj.1 h _ h1;cases x<;>simp_all [CV.kd,sW]
structure Ns (E:eP) (σ:St) (w:bB) (c:eB) (ti:TI) (v:a_) (xs:ax AV):Prop where
 ex:∃(b o:aE) (cs:ax a_),v= .pointer (ah (ad b o))/\cs.length=ti.ks.length/\(∀(j:aE) (u:a_),cs[j]? =ah u->w.cell? (ad b (o+j))=ah u)/\
  xs.length=ti.ks.length/\(∀(j:aE) (x:AV),xs[j]? =ah x->∃u:a_,cs[j]? =ah u/\dP E w c x u)
 kn:∀x∈xs,iz σ x
theorem lh{ti:TI}{b o:aE}{xs:ax AV}(hl:xs.length=ti.ks.length)(h:∀(j:aE) (x:AV),xs[j]? =ah x->∃u:a_,w.cell? (ad b (o+j))=ah u/\dP E w c x u)(hk:∀x∈xs,iz σ x):
  Ns E σ w c ti (.pointer (ah (ad b o))) xs:=by
 refine⟨⟨b,o,(cz xs.length).map (λj=>(w.cell? (ad b (o+j))).getD undef),rfl,by simp[hl], ?_,hl, ?_⟩,hk⟩
 ·intro j u hu;simp only[bz]at hu;by_cases hj:j<xs.length
  ·obtain⟨u',qB,_⟩:=h j xs[j] (by simp[hj]);simp only[hj,tz,fS,qB,vW,iM]at hu;rw[qB,hu]
  ·simp[jQ (l:=cz xs.length) (by simpa using hj)]at hu
 ·intro j x hx;obtain⟨u,hu,hv⟩:=h j x hx;refine⟨u, ?_,hv⟩
  have hj:j<xs.length:=(aT.1 hx).1;simp[hj,hu]
theorem O7(b7:Ok E σ w c){ti:TI}{p:AV}{v:a_}{xs:ax AV}(hp:dP E w c p v)(h:(qC E ti p).val σ=ah xs):Ns E σ w c ti v xs:=by
 have Uv:∀(n:aE) (k:Ck) (x:CV),n∈bw (dec k x)->σ (cK n)≠ .iU:=λn k x hn=>by rw[LD]at hn;simp at hn
 cases p with
 |bp nm j=>
  obtain⟨o,ho,h2⟩:=Rd.bind_some h;have mg:=b7.obj nm o (cY ho);obtain rfl:v=_:=hp;cases o with
  |box ys=>
   obtain⟨hle,h3⟩:=cj h2;have hle:=cu hle;obtain rfl:=aD h3;obtain⟨vals,hb,hs,hc⟩:=mg;refine lh (by simp;omega) (λq x hx=> ?_) (λx hx=>b7.kn nm ys (cY ho) x (kj (jR hx)));rw[d_]at hx;split at hx
   ·rw[dN]at hx;obtain⟨u,hu,hv⟩:=hc (j+q) x hx;exact⟨u,(hb.cell (j+q)).trans hu,hv⟩
   ·cases hx
  |mU cs=>
   obtain⟨hle,h3⟩:=cj h2;have hle:=cu hle;obtain rfl:=aD h3;refine lh (by simp;omega) (λq x hx=> ?_) (λx hx=> ?_)
   ·rw[bz,d_]at hx;split at hx
    ·rw[dN]at hx;cases hy:cs[j+q]? with
     |none=>rw[hy]at hx;cases hx
     |some y=>rw[hy]at hx;cases hx;obtain⟨u,hu,hv⟩:=mg.2 (j+q) y hy;exact⟨u,hu,JZ hv⟩
    ·cases hx
   ·obtain⟨y,_,rfl⟩:=cO.1 hx;intro n hn;rw[Ah]at hn;simp at hn
  |row=>simp at h2
  |eZ=>simp at h2
  |dead=>simp at h2
 |fp cs j=>
  obtain⟨hle,h3⟩:=cj h;have hle:=cu hle;obtain rfl:=aD h3;obtain⟨b,rfl,hb⟩:=hp;refine lh (by simp;omega) (λq x hx=> ?_) (λx hx=> ?_)
  ·rw[bz,d_]at hx;split at hx
   ·rw[dN]at hx;cases hy:cs[j+q]? with
    |none=>rw[hy]at hx;cases hx
    |some y=>rw[hy]at hx;cases hx;obtain⟨u,hu,hv⟩:=hb.2 (j+q) y hy;exact⟨u,hu,JZ hv⟩
   ·cases hx
  ·obtain⟨y,_,rfl⟩:=cO.1 hx;intro n hn;rw[Ah]at hn;simp at hn
 |sp e ys i j=>
  obtain⟨te,ht,h2⟩:=Rd.bind_some h;have ht:=dC ht;obtain⟨hk,h3⟩:=cj h2;have hk:=qd hk;obtain rfl:=aD h3;obtain⟨b,o,cp,ti2,hh,hi,Es,rfl⟩:=hp;obtain rfl:te=ti2:=aD (ht.symm.trans Es);refine lh (jI _ _ _ _) (λq x hx=> ?_) (λx hx=> ?_)
  ·rw[kC]at hx;obtain⟨ti3,U,hL⟩:=hh.FI (by omega);obtain rfl:te=ti3:=aD (ht.symm.trans hL.ty);have hq:q<ti.ks.length:=by
    cases hq:ti.ks[q]? with
    |none=>rw[hq]at hx;cases hx
    |some k=>exact(aT.1 hq).1
   have hy:ys[i]? =ah ys[i]:=by simp[hi]
   obtain⟨z,hz,tN⟩:=pz (hL.sh ys[i] (bD hi)) hk hq;rw[tN]at hx;cases hx;rw[ew hy hz];exact⟨U i (j+q),by have:=hL.cell i (j+q) _ z hy hz;rwa[show o+i*te.ks.length+j+q=o+i*te.ks.length+(j+q)by omega],Hb (hL.inn i (j+q) _ z hy hz)⟩
  ·obtain⟨q,hq⟩:=bV hx;rw[kC]at hq;cases tN:ti.ks[q]? with
   |none=>rw[tN]at hq;cases hq
   |some k=>rw[tN]at hq;cases hq;intro n hn;exact Uv n _ _ hn
 |rp nm i j=>
  obtain⟨o,ho,h2⟩:=Rd.bind_some h;have ho:=cY ho;have mg:=b7.obj nm o ho;obtain⟨hi,rfl⟩:=hp;cases o with
  |row e ex ys=>
   obtain⟨te,ht,h2⟩:=Rd.bind_some h2;have ht:=dC ht;obtain⟨hk,h3⟩:=cj h2;have hk:=qd hk;have h3:(ex=ai/\plain ti.ks=ai/\xs=sU ys i j ti.ks)\/((ex=ak\/uh nm=ak)/\xs=bif ex then yt nm ys i j ti.ks else sU ys i j ti.ks):=by
    cases hF:(ex&&uh nm)with
    |true=>rw[hF,ay]at h3;obtain⟨sA,h3⟩:=cj h3;rw[aF]at hF;exact .inl ⟨hF.1,sA,(aD h3).symm⟩
    |false=>
     rw[hF,aC]at h3;refine .inr ⟨?_,(aD h3).symm⟩;cases ex with
     |false=>exact .inl rfl
     |true=>exact .inr (by simpa using hF)
   obtain⟨⟨ti2,Es,fm,lK⟩,fN,_⟩:=mg;obtain rfl:te=ti2:=aD (ht.symm.trans Es);have iu:(c.P nm).nil=false:=by
    cases hn:(c.P nm).nil with
    |false=>rfl
    |true=>have:=(fN.nil hn).1;subst this;rw[fN.n]at hi;simp at hi
   obtain⟨vals,hb,Wg,_,mK,nT⟩:=fN.mem iu;have km:i<ys.length:=by rw[<-fN.n];exact hi
   have hy:ys[i]? =ah ys[i]:=by simp[km]
   rcases h3 with ⟨rfl,sA,rfl⟩|h3
   ·refine lh (jI _ _ _ _) (λq x hx=> ?_) (λx hx=> ?_)
    ·have hq:q<ti.ks.length:=by have:=(aT.1 hx).1;simpa [jI]using this
     obtain⟨z,hz,tN⟩:=pz (lK ys[i] (bD km)) hk hq;obtain⟨u,hu,hr⟩:=nT i _ (j+q) z hy hz;rw[bu rfl]at hr;rw[kC,tN]at hx;cases hx;refine⟨u, ?_, ?_⟩
     ·rw[hb.cell];rw[<-hu];congr 1;omega
     ·have hzk:=bj.1 sA z.kd (aP tN);show dP E w c (dec z.kd (ar ys i (j+q))) u;rw[ew hy hz];cases z with
      |l e2 zs=>cases hzk
      |i k n=>exact nN rfl hr
      |b t=>exact nN rfl hr
      |s t=>exact nN rfl hr
    ·obtain⟨q,hq⟩:=bV hx;intro n hn;rw[kC]at hq;cases tN:ti.ks[q]? with
     |none=>rw[tN]at hq;cases hq
     |some k=>rw[tN]at hq;cases hq;exact Uv n _ _ hn
   obtain⟨hFn,rfl⟩:=h3;refine lh (by cases ex<;>simp[jI,xH]) (λq x hx=> ?_) (λx hx=> ?_)
   ·have hq:q<ti.ks.length:=by have:=(aT.1 hx).1;cases ex<;>simpa [jI,xH]using this
    obtain⟨z,hz,tN⟩:=pz (lK ys[i] (bD km)) hk hq;obtain⟨u,hu,hr⟩:=nT i _ (j+q) z hy hz;refine⟨u, ?_, ?_⟩
    ·rw[hb.cell];rw[<-hu];congr 1;omega
    ·cases ex with
     |false=>rw[bJ (by simp)]at hr;have hx:(sU ys i j ti.ks)[q]? =ah x:=hx;rw[kC,tN]at hx;cases hx;rw[ew hy hz];exact Hb hr
     |true=>
      rw[bu rfl]at hr;have hx:(yt nm ys i j ti.ks)[q]? =ah x:=hx;rw[E3,tN]at hx;cases z with
      |l e2 zs=>cases hx;exact⟨⟨hi,hr.1⟩,hFn.resolve_left (by simp)⟩
      |i k n=>cases hx;rw[ew hy hz];exact nN rfl hr
      |b t=>cases hx;rw[ew hy hz];exact nN rfl hr
      |s t=>cases hx;rw[ew hy hz];exact nN rfl hr
   ·obtain⟨q,hq⟩:=bV hx;intro n hn;cases ex with
    |false=>
     have hq:(sU ys i j ti.ks)[q]? =ah x:=hq;rw[kC]at hq;cases tN:ti.ks[q]? with
     |none=>rw[tN]at hq;cases hq
     |some k=>rw[tN]at hq;cases hq;exact Uv n _ _ hn
    |true=>
     have hq:(yt nm ys i j ti.ks)[q]? =ah x:=hq;rw[E3]at hq;cases tN:ti.ks[q]? with
     |none=>rw[tN]at hq;cases hq
     |some k=>
      rw[tN]at hq;cases k with
      |l e2=>cases hq;simp[bw]at hn;subst hn;rw[ho];simp
      |i=>cases hq;exact Uv n _ _ hn
      |b=>cases hq;exact Uv n _ _ hn
      |s=>cases hq;exact Uv n _ _ hn
      |o=>cases hq;exact Uv n _ _ hn
  |eZ e ys=>
   obtain⟨te,ht,h2⟩:=Rd.bind_some h2;have ht:=dC ht;obtain⟨hk,h3⟩:=cj h2;have hk:=qd hk;obtain rfl:=aD h3;obtain⟨hh,hn,ti2,Es,fm⟩:=mg;obtain rfl:te=ti2:=aD (ht.symm.trans Es);have km:i<ys.length:=by rw[<-hn];exact hi
   have hy:ys[i]? =ah ys[i]:=by simp[km]
   have iu:(c.P nm).nil=false:=by
    cases hq:(c.P nm).nil with
    |false=>rfl
    |true=>unfold mf at hh;rw[bu hq]at hh;cases hh;simp at km
   unfold mf at hh;rw[bJ (by simp[iu]),hn]at hh;refine lh (jI _ _ _ _) (λq x hx=> ?_) (λx hx=> ?_)
   ·rw[kC]at hx;obtain⟨ti3,U,hL⟩:=hh.FI (by omega);obtain rfl:te=ti3:=aD (ht.symm.trans hL.ty);have hq:q<ti.ks.length:=by
     cases hq:ti.ks[q]? with
     |none=>rw[hq]at hx;cases hx
     |some k=>exact(aT.1 hq).1
    obtain⟨z,hz,tN⟩:=pz (hL.sh ys[i] (bD km)) hk hq;rw[tN]at hx;cases hx;rw[ew hy hz];exact⟨U i (j+q),by have:=hL.cell i (j+q) _ z hy hz;rw[<-this];congr 2;rw[fm];omega,Hb (hL.inn i (j+q) _ z hy hz)⟩
   ·obtain⟨q,hq⟩:=bV hx;rw[kC]at hq;cases tN:ti.ks[q]? with
    |none=>rw[tN]at hq;cases hq
    |some k=>rw[tN]at hq;cases hq;intro n hn;exact Uv n _ _ hn
  |box=>simp at h2
  |mU=>simp at h2
  |dead=>simp at h2
 |ip nm i j i2 j2=>
  obtain⟨o,ho,h2⟩:=Rd.bind_some h;have ho:=cY ho;have mg:=b7.obj nm o ho;obtain⟨⟨jr,hi,rfl⟩,hFp⟩:=hp;cases o with
  |row e ex ys=>
   cases ex with
   |false=>simp at h2
   |true=>
    obtain⟨te,ht,h2⟩:=Rd.bind_some h2;have ht:=dC ht;split at h2
    ·rename_i e2 xE;obtain⟨t2,Es,h2⟩:=Rd.bind_some h2;have Es:=dC Es;obtain⟨hk,h3⟩:=cj h2;have hk:=qd hk;obtain rfl:=aD h3;obtain⟨⟨tj,Tg,fm,lK⟩,fN,_⟩:=mg;obtain rfl:te=tj:=aD (ht.symm.trans Tg);obtain⟨zs,y,hy,To,uu,_,tk,DL,sA,HD,z7,lU⟩:=py (c:=c) fN lK jr xE;obtain rfl:t2=tk:=aD (Es.symm.trans DL);rw[ew hy To];refine lh (jI _ _ _ _) (λq x hx=> ?_) (λx hx=> ?_)
     ·rw[kC]at hx;have hq:q<ti.ks.length:=by
       cases hq:ti.ks[q]? with
       |none=>rw[hq]at hx;cases hx
       |some k=>exact(aT.1 hq).1
      have Bu:i2<zs.length:=by rw[<-lU.n];exact hi
      have z0:(c.G nm i j).nil=false:=by
       cases hn:(c.G nm i j).nil with
       |false=>rfl
       |true=>have:=(lU.nil hn).1;subst this;simp at Bu
      obtain⟨vals,hb,_,_,_,nT⟩:=lU.mem z0;have hzi:zs[i2]? =ah zs[i2]:=by simp[Bu]
      obtain⟨z,hz,tN⟩:=pz (z7 zs[i2] (bD Bu)) hk hq;obtain⟨u,hu,hr⟩:=nT i2 _ (j2+q) z hzi hz;rw[tN]at hx;cases hx;refine⟨u, ?_, ?_⟩
      ·rw[hb.cell,<-hu];congr 1;omega
      ·show dP E w c (dec z.kd (ar zs i2 (j2+q))) u;rw[ew hzi hz];exact nN (ic sA (z7 _ (bD Bu)) hz) hr
     ·obtain⟨q,hq⟩:=bV hx;rw[kC]at hq;cases tN:ti.ks[q]? with
      |none=>rw[tN]at hq;cases hq
      |some k=>rw[tN]at hq;cases hq;intro n hn;exact Uv n _ _ hn
    ·simp at h2
  |eZ=>simp at h2
  |box=>simp at h2
  |mU=>simp at h2
  |dead=>simp at h2
 |i=>simp[qC]at h
 |b=>simp[qC]at h
 |s=>simp[qC]at h
 |sh=>simp[qC]at h
 |nl=>simp[qC]at h
 |own=>simp[qC]at h
 |vw=>simp[qC]at h
 |inn=>simp[qC]at h
 |iv=>simp[qC]at h
 |fn=>simp[qC]at h
end
end Go.FG

namespace Go.FG
section
variable {P:cL} {E:eP} {σ:St} {a:Act} {w:bB} {c:eB} {o:eJ} {nm:aE} {e:qU}
theorem ia{s:Sem a_}{v:a_}{w':bB}(hr:s.run P w= .ok v w'):(do pure (Next.value (<-s)):Sem Next).run P w= .ok (.value v) w':=by simp only[b8,hr,bn,cB]
theorem e_(b7:Ok E σ w c)(di:eG E σ a w c)(hd:∀d,o.dst=ah d->d<a.tmps.size){s:SV}{v:a_}(h:(val o s).val σ=ah e)(hs:iA E w c s v)(hk:lC σ s)(hr:(execOp a.eval o).run P w= .ok (.value v) w):fT P E σ a w c o e.ws:=by obtain rfl:=aD h;exact e9 b7 di hd hs hk hr
theorem CH(b7:Ok E σ w c)(di:eG E σ a w c)(hd:∀d,o.dst=ah d->d<a.tmps.size){b:aW}{x:AV}{v:a_}(h:(Il o b x).val σ=ah e)(hc:e.cond=ai)(hs:b=ai->dP E w c x v)(hk:iz σ x)(hr:b=ai->(execOp a.eval o).run P w= .ok (.value v) w):fT P E σ a w c o e.ws:=by obtain rfl:=aD h;have hc:b=true:=hc;exact e9 b7 di hd (hs hc) (λn hn=>hk n (by simpa [ch]using hn)) (hr hc)
theorem sB{σ:St}{x:AV}(h:bw x=[]):iz σ x:=λn hn=>by rw[h]at hn;simp at hn
theorem J5(b7:Ok E σ w c)(di:eG E σ a w c)(hd:∀d,o.dst=ah d->d<a.tmps.size){x:c5}(ho:o.op= .move x\/o.op= .assign x)(h:(kM E nm o).val σ=ah e):fT P E σ a w c o e.ws:=by
 have h':((DX x).bind λv=>val o v).val σ=ah e:=by rcases ho with ho|ho<;>simpa [kM,ho]using h
 obtain⟨v,h1,h2⟩:=Rd.bind_some h';obtain⟨hv,hk⟩:=kX di h1;refine e_ b7 di hd h2 hv hk ?_;rcases ho with ho|ho<;>(unfold execOp;rw[ho];rfl)
theorem FV(b7:Ok E σ w c)(di:eG E σ a w c)(hd:∀d,o.dst=ah d->d<a.tmps.size){x:c5}(ho:o.op= .nilCheck x)(h:(kM E nm o).val σ=ah e):fT P E σ a w c o e.ws:=by
 simp only[kM,ho]at h;obtain⟨p,h1,h⟩:=Rd.bind_some h;obtain⟨ex,kx⟩:=ij di h1;cases p with
 |bp n j=>have sr:a.eval x= .pointer (ah (ad (c.P n).blk j)):=ex;refine e_ b7 di hd h (v:=a.eval x) ex (λn hn=>kx n (by simpa [ch]using hn)) ?_;unfold execOp;rw[ho];simp only[sr];rfl
 |rp n i j=>have sr:a.eval x= .pointer (ah (ad (c.P n).blk ((c.P n).off+i*(c.P n).sz+j))):=ex.2;refine e_ b7 di hd h (v:=a.eval x) ex (λn hn=>kx n (by simpa [ch]using hn)) ?_;unfold execOp;rw[ho];simp only[sr];rfl
 |_=>cases h
theorem UB(b7:Ok E σ w c)(di:eG E σ a w c)(hd:∀d,o.dst=ah d->d<a.tmps.size){x y z:c5}(ho:o.op= .pick x y z)(h:(kM E nm o).val σ=ah e)(hc:e.cond=ai):fT P E σ a w c o e.ws:=by
 simp only[kM,ho]at h;obtain⟨cx,h1,h⟩:=Rd.bind_some h;obtain⟨vy,h2,h⟩:=Rd.bind_some h;obtain⟨vz,h3,h⟩:=Rd.bind_some h;obtain⟨ex,kx⟩:=ij di h1;obtain⟨ey,ky⟩:=kX di h2;obtain⟨ez,kz⟩:=kX di h3;have run:∀b,a.eval x= .bool b->(execOp a.eval o).run P w= .ok (.value (if b then a.eval y else a.eval z)) w:=by intro b hb;unfold execOp;rw[ho];simp only[hb,asBool,b8,cB,bn]
 cases cx with
 |b b=>
  replace ex:a.eval x= .bool b:=ex;have both:∀p q,vy= .v ak [.b p]->vz= .v ak [.b q]->fT P E σ a w c o e.ws:=by
   rintro p q rfl rfl;refine e_ b7 di hd h (v:=if b then a.eval y else a.eval z) ?_ (λn hn=>by simp[ch,bw]at hn) (run b ex);cases b
   ·exact ez
   ·exact ey
  have lft:vy= .jh []->fT P E σ a w c o e.ws:=by
   rintro rfl;replace h:(Rd.ret (⟨!b,dw o vz⟩:qU)).val σ=ah e:=by cases vz<;>exact h
   obtain rfl:=aD h;have hb:b=false:=by simpa using hc
   subst hb;exact e9 b7 di hd ez kz (run ak ex)
  have rgt:vz= .jh []->vy≠ .jh []->fT P E σ a w c o e.ws:=by
   rintro rfl iq;replace h:(Rd.ret (⟨b,dw o vy⟩:qU)).val σ=ah e:=by
    cases vy with
    |un=>exact h
    |jh l=>cases l with
     |nil=>exact cw rfl iq
     |cons=>exact h
    |v g xs=>cases g<;>(rcases xs with _|⟨⟨⟩,_|⟨_,_⟩⟩<;>exact h)
   obtain rfl:=aD h;have hb:b=true:=hc;subst hb;exact e9 b7 di hd ey ky (run ai ex)
  cases vy with
  |un=>cases vz with
   |un=>simp at h
   |jh l=>cases l with
    |nil=>exact rgt rfl (by simp)
    |cons=>simp at h
   |v=>simp at h
  |jh l=>cases l with
   |nil=>exact lft rfl
   |cons=>cases vz with
    |un=>simp at h
    |jh l2=>cases l2 with
     |nil=>exact rgt rfl (by simp)
     |cons=>simp at h
    |v=>simp at h
  |v g xs=>cases vz with
   |un=>simp at h
   |jh l2=>cases l2 with
    |nil=>exact rgt rfl (by simp)
    |cons=>simp at h
   |v g2 ys=>cases g<;>cases g2<;>rcases xs with _|⟨⟨⟩,_|⟨_,_⟩⟩<;>rcases ys with _|⟨⟨⟩,_|⟨_,_⟩⟩<;>first|(simp at h;done)|exact both _ _ rfl rfl
 |i=>simp at h
 |s=>simp at h
 |sh=>simp at h
 |nl=>simp at h
 |own=>simp at h
 |vw=>simp at h
 |bp=>simp at h
 |rp=>simp at h
 |sp=>simp at h
 |inn=>simp at h
 |ip=>simp at h
 |iv=>simp at h
 |fn=>simp at h
 |fp=>simp at h
theorem UA(hE:dS P E)(b7:Ok E σ w c)(di:eG E σ a w c)(hd:∀d,o.dst=ah d->d<a.tmps.size){t:aE}{p:c5}(ho:o.op= .load t p)(h:(kM E nm o).val σ=ah e):fT P E σ a w c o e.ws:=by
 simp only[kM,ho]at h;obtain⟨ti,h1,h⟩:=Rd.bind_some h;obtain⟨pv,h2,h⟩:=Rd.bind_some h;obtain⟨xs,h3,h⟩:=Rd.bind_some h;have ht:=dC h1;obtain⟨ep,_⟩:=ij di h2;obtain⟨⟨b,of,cs,hv,hl,hcell,hlen,Rw⟩,Ft⟩:=O7 b7 ep h3;have hr:=AH (P:=P) w hE ht hl hcell;refine e_ b7 di hd h (v:=if ti.agg=ai then .agg cs.toArray else cs.headD .nilIface) ?_ (λn hn=>by obtain⟨x,hx,hn⟩:=bA.1 hn;exact Ft x hx n hn) ?_
 ·show o4 E w c ti.agg xs _;cases sw:ti.agg with
  |true=>rw[bu rfl];exact⟨cs.toArray,rfl,by simp[hl,hlen],λj x hj=>by obtain⟨u,hu,hx⟩:=Rw j x hj;exact⟨u,by simpa using hu,hx⟩⟩
  |false=>
   obtain⟨d,_,_,hn⟩:=hE.desc t ti ht;have h1:ti.ks.length=1:=by rcases hn sw with ⟨k,h,_⟩|⟨h,_⟩|⟨h,_⟩|⟨e',h,_⟩|⟨h,_⟩<;>simp[h]
   obtain⟨x,rfl⟩:=f_.1 (hlen.trans h1);obtain⟨v,rfl⟩:=f_.1 (hl.trans h1);obtain⟨u,hu,hx⟩:=Rw 0 x rfl;simp at hu;subst hu;simpa [o4]using hx
 ·unfold execOp;rw[ho];exact ia (by rw[hv];exact hr)
theorem DU(hE:dS P E)(b7:Ok E σ w c)(di:eG E σ a w c)(hd:∀d,o.dst=ah d->d<a.tmps.size){t f:aE}{p:c5}(ho:o.op= .fieldAddr t p f)(h:(kM E nm o).val σ=ah e):fT P E σ a w c o e.ws:=by
 simp only[kM,ho]at h;obtain⟨pv,h1,h⟩:=Rd.bind_some h;obtain⟨q,h2,h⟩:=Rd.bind_some h;obtain⟨ep,kp⟩:=ij di h1;unfold N_ at h2;cases hf:E.fo t f with
 |none=>rw[hf]at h2;simp at h2
 |some r=>
  obtain⟨off,n⟩:=r;rw[hf]at h2;have run:∀b o',a.eval p= .pointer (ah (ad b o'))->(execOp a.eval o).run P w= .ok (.value (.pointer (ah (ad b (o'+off))))) w:=by intro b o' hp;unfold execOp;rw[ho];exact ia (by rw[hp];exact Ga (P:=P) w hE hf b o')
  cases pv with
  |bp fQ j=>obtain rfl:=aD h2;exact e_ b7 di hd h (s:= .v ak [.bp fQ (j+off)]) (v:= .pointer (ah (ad (c.P fQ).blk (j+off)))) rfl (λn hn=>kp n (by simpa [ch,bw]using hn)) (run _ _ ep)
  |rp fQ i j=>obtain rfl:=aD h2;refine e_ b7 di hd h (s:= .v ak [.rp fQ i (j+off)]) ?_ (λn hn=>kp n (by simpa [ch,bw]using hn)) (run _ _ ep.2);exact⟨ep.1,by rw[show(c.P fQ).off+i*(c.P fQ).sz+j+off=(c.P fQ).off+i*(c.P fQ).sz+(j+off)by omega]⟩
  |sp e2 xs i j=>obtain rfl:=aD h2;obtain⟨b,o',cp,ti,e1,SD,e3,e4⟩:=ep;refine e_ b7 di hd h (s:= .v ak [.sp e2 xs i (j+off)]) ?_ (λn hn=>by simp[ch,bw]at hn) (run _ _ e4);exact⟨b,o',cp,ti,e1,SD,e3,by rw[show o'+i*ti.ks.length+j+off=o'+i*ti.ks.length+(j+off)by omega]⟩
  |ip fQ i j i2 j2=>obtain rfl:=aD h2;refine e_ b7 di hd h (s:= .v ak [.ip fQ i j i2 (j2+off)]) ?_ (λn hn=>kp n (by simpa [ch,bw]using hn)) (run _ _ ep.1.2.2);exact⟨⟨ep.1.1,ep.1.2.1,by rw[show(c.G fQ i j).off+i2*(c.G fQ i j).sz+j2+off=(c.G fQ i j).off+i2*(c.G fQ i j).sz+(j2+off)by omega]⟩,ep.2⟩
  |fp cs j=>obtain rfl:=aD h2;obtain⟨b,e1,SD⟩:=ep;exact e_ b7 di hd h (s:= .v ak [.fp cs (j+off)]) ⟨b,rfl,SD⟩ (λn hn=>by simp[ch,bw]at hn) (run _ _ e1)
  |i=>simp at h2
  |b=>simp at h2
  |s=>simp at h2
  |sh=>simp at h2
  |nl=>simp at h2
  |own=>simp at h2
  |vw=>simp at h2
  |inn=>simp at h2
  |iv=>simp at h2
  |fn=>simp at h2
theorem HY(b7:Ok E σ w c)(di:eG E σ a w c)(hd:∀d,o.dst=ah d->d<a.tmps.size){x:c5}{i:aE}(ho:o.op= .extract x i)(h:(kM E nm o).val σ=ah e):fT P E σ a w c o e.ws:=by
 simp only[kM,ho]at h;obtain⟨v,h1,h⟩:=Rd.bind_some h;obtain⟨ev,kv⟩:=kX di h1;split at h
 ·rename_i l;split at h
  ·rename_i agg xs hl;obtain⟨vs,e1,e2,e3⟩:=ev;obtain⟨u,hu,hv⟩:=e3 i agg xs hl;refine e_ b7 di hd h (v:=u) hv (λn hn=>kv n (bA.2 ⟨(agg,xs),aP hl,hn⟩)) ?_;unfold execOp;rw[ho];refine ia ?_;rw[e1];simp only[Instr.extract,hu];rfl
  ·simp at h
 ·simp at h
theorem UC(b7:Ok E σ w c)(di:eG E σ a w c)(hd:∀d,o.dst=ah d->d<a.tmps.size){x:c5}{op:UnOp}{t:aE}(ho:o.op= .unOp op t x)(h:(kM E nm o).val σ=ah e):fT P E σ a w c o e.ws:=by
 simp only[kM,ho]at h;obtain⟨v,h1,h⟩:=Rd.bind_some h;obtain⟨ev,kv⟩:=ij di h1;cases op with
 |not=>
  cases v with
  |b b=>refine e_ b7 di hd h (v:= .bool !b) rfl (λn hn=>by simp[ch,bw]at hn) ?_;unfold execOp;rw[ho];refine ia ?_;rw[show a.eval x= .bool b from ev];rfl
  |_=>simp at h
 |neg=>
  cases v with
  |i k n=>refine e_ b7 di hd h (v:= .int k (k.wrap (0-n))) rfl (λn hn=>by simp[ch,bw]at hn) ?_;unfold execOp;rw[ho];refine ia ?_;rw[show a.eval x= .int k n from ev];rfl
  |_=>simp at h
 |_=>cases v<;>simp at h
theorem qh{E:eP}{σ:St}{t:aE}{k:Ck}(h:(ov E t).val σ=ah k):∃ti,E.ty t=ah ti/\ti.agg=ak/\ti.ks=[k]:=by
 obtain⟨ti,h1,h2⟩:=Rd.bind_some h;split at h2
 ·rename_i k' h3 h4;simp at h2;subst h2;exact⟨ti,dC h1,h3,h4⟩
 ·simp at h2
theorem jH{E:eP}{σ:St}(hE:dS P E){t e:aE}(h:(ov E t).val σ=ah (.l e)):P.underlying t=ah (.slice e):=by obtain⟨ti,h1,h2,h3⟩:=qh h;exact nP hE h1 h2 h3
theorem jX{E:eP}{σ:St}(hE:dS P E){t:aE}(h:(ov E t).val σ=ah .s):P.underlying t=ah .string:=by obtain⟨ti,h1,h2,h3⟩:=qh h;obtain⟨d,hd,_,hn⟩:=hE.desc t ti h1;rcases hn h2 with ⟨k,h,_⟩|⟨h,_⟩|⟨h,rfl⟩|⟨e',h,_⟩|⟨h,_⟩<;>rw[h3]at h<;>simp_all
theorem PF(hE:dS P E)(b7:Ok E σ w c)(di:eG E σ a w c)(hd:∀d,o.dst=ah d->d<a.tmps.size){x y:c5}{t:aE}(ho:o.op= .index t x y)(h:(kM E nm o).val σ=ah e)(hc:e.cond=ai):fT P E σ a w c o e.ws:=by
 simp only[kM,ho]at h;obtain⟨kk,h0,h⟩:=Rd.bind_some h;obtain⟨v,h1,h⟩:=Rd.bind_some h;obtain⟨⟨k,n⟩,h2,h⟩:=Rd.bind_some h;obtain⟨ev,kv⟩:=ij di h1;have ei:=ox di h2;cases kk with
 |s=>cases v with
  |s s=>
   have hu:=jX hE h0;refine CH b7 di hd h hc (v:= .int .u8 ((s.data.getD n.toNat 0).toNat:az)) (λ_=>rfl) (sB rfl) (λhb=> ?_);simp only[aF,ba]at hb;obtain⟨h0,h3⟩:=hb;unfold execOp;rw[ho];refine ia ?_;replace ev:a.eval x= .string s:=ev.1;have ji:n.toNat<s.size:=by omega
   have hg:s[n.toNat]? =ah s[n.toNat]:=by simp[ji]
   have hs:s[n.toNat]=s.data.getD n.toNat 0:=by rw[Array.getD,dif_pos (show n.toNat<s.data.size from ji)];rfl
   simp only[ev,ei,Instr.index,asIntOf,b8,cB,bn,run_underlying hu,h0,if_true,hg,hs]
  |_=>simp at h
 |_=>simp at h
end
end Go.FG

namespace Go.FG
section
variable {P:cL} {E:eP} {σ:St} {a:Act} {w:bB} {c:eB} {o:eJ} {nm:aE} {e:qU}
theorem pd{α:Type}{b:aW}{x:α}{σ:St}{r:α}(h:(bif b then Rd.ret x else Rd.fail).val σ=ah r):b=ai/\r=x:=by obtain⟨h1,h2⟩:=cj h;exact⟨h1,(aD h2).symm⟩
theorem fj{p:Pl}(h:p.nil=ak):mf p= .slice (ah (ad p.blk p.off)) p.n p.cap:=by unfold mf;rw[bJ (by simp[h])]
theorem nu{p:Pl}(h:p.nil=ai):mf p= .slice aj 0 0:=by unfold mf;rw[bu h]
theorem jY{nm e:aE}{ex:aW}{xs:aU}(b7:Ok E σ w c)(h:σ (cK nm)= .o (.row e ex xs)):
  (c.P nm).n=xs.length/\((c.P nm).nil=ai->xs=[])/\∃ti,E.ty e=ah ti/\(c.P nm).sz=ti.ks.length/\((c.P nm).nil=ak->(c.P nm).n<=(c.P nm).cap/\(c.P nm).cap<=maxLen):=by have mg:=b7.obj nm _ h;obtain⟨ti,h1,h2,_⟩:=mg.sh;exact⟨mg.at_.n,λhn=>(mg.at_.nil hn).1,ti,h1,h2,λhn=>by obtain⟨_,_,h3,h4,_⟩:=mg.at_.mem hn;exact⟨h3,h4⟩⟩
theorem lM{nm e:aE}{xs:aU}(b7:Ok E σ w c)(h:σ (cK nm)= .o (.eZ e xs)):
  (c.P nm).n=xs.length/\((c.P nm).nil=ai->xs=[])/\∃ti,E.ty e=ah ti/\(c.P nm).sz=ti.ks.length:=by
 obtain⟨h1,h2,h3⟩:=b7.obj nm _ h;refine⟨h2,λhn=> ?_,h3⟩
 rw[nu hn]at h1;cases h1;rfl
theorem DV(hE:dS P E)(b7:Ok E σ w c)(di:eG E σ a w c)(hd:∀d,o.dst=ah d->d<a.tmps.size){x y:c5}{t:aE}(ho:o.op= .indexAddr t x y)(h:(kM E nm o).val σ=ah e)(hc:e.cond=ai):fT P E σ a w c o e.ws:=by
 simp only[kM,ho]at h;obtain⟨kk,h0,h⟩:=Rd.bind_some h;cases kk with
 |l el=>
  obtain⟨v,h1,h⟩:=Rd.bind_some h;obtain⟨⟨k,n⟩,h2,h⟩:=Rd.bind_some h;obtain⟨⟨b,q⟩,h3,h⟩:=Rd.bind_some h;obtain⟨ev,kv⟩:=ij di h1;have ei:=ox di h2;have hu:=jH hE h0;have run:∀te b o' m cp,E.ty el=ah te->a.eval x= .slice (ah (ad b o')) m cp->0<=n->n<(m:az)->(execOp a.eval o).run P w= .ok (.value (.pointer (ah (ad b (o'+n.toNat*te.ks.length))))) w:=by intro te b o' m cp HE hx h0 h1;unfold execOp;rw[ho];refine ia ?_;rw[hx,ei];exact Gb (P:=P) w hE hu HE b o' m cp k n h0 h1
  cases v with
  |sh e' xs=>
   obtain⟨zV,h3⟩:=pd h3;obtain⟨rfl,rfl⟩:=bN h3;have:=aQ zV;subst this;obtain rfl:=aD h;have hc:(decide (0<=n)&&decide (n<(xs.length:az)))=true:=hc;simp only[aF,ba]at hc;obtain⟨c0,c1⟩:=hc;have ev:cQ E w c.K (a.eval x) (.l el xs):=ev;generalize hv:a.eval x=v at ev;have iq:0<xs.length:=by omega
   cases ev with
   |nl=>simp at iq
   |l _ _ bb oo cc ti U ht Le hmx hK hs hcell gO=>exact e9 b7 di hd (s:= .v ak [.sp el xs n.toNat 0]) (v:= .pointer (ah (ad bb (oo+n.toNat*ti.ks.length)))) ⟨bb,oo,cc,ti, .l el xs bb oo cc ti U ht Le hmx hK hs hcell gO,by omega,ht,rfl⟩ (λn hn=>by simp[ch,bw]at hn) (run ti bb oo _ cc ht hv c0 c1)
  |own fQ=>
   obtain⟨ob,hg,h3⟩:=Rd.bind_some h3;have hg:=cY hg;have main:∀(xs:aU),(c.P fQ).n=xs.length->((c.P fQ).nil=ai->xs=[])->(∃ti,E.ty el=ah ti/\(c.P fQ).sz=ti.ks.length)->(b,q)=(decide (0<=n)&&decide (n<(xs.length:az)),AV.rp fQ n.toNat 0)->fT P E σ a w c o e.ws:=by
    intro xs hn iu Ti hbq;obtain⟨rfl,rfl⟩:=bN hbq;obtain rfl:=aD h;have hc:(decide (0<=n)&&decide (n<(xs.length:az)))=true:=hc;simp only[aF,ba]at hc;obtain⟨c0,c1⟩:=hc;obtain⟨ti,ht,fm⟩:=Ti;have Li:(c.P fQ).nil=false:=by
     cases hq:(c.P fQ).nil with
     |false=>rfl
     |true=>rw[iu hq]at c1;simp at c1;omega
    have hx:a.eval x= .slice (ah (ad (c.P fQ).blk (c.P fQ).off)) (c.P fQ).n (c.P fQ).cap:=by rw[<-fj Li];exact ev
    refine e9 b7 di hd (s:= .v ak [.rp fQ n.toNat 0]) (v:= .pointer (ah (ad (c.P fQ).blk ((c.P fQ).off+n.toNat*ti.ks.length)))) ⟨by omega,by rw[fm];rfl⟩ (λm hm=>by simp[ch,bw]at hm;subst hm;rw[hg];simp) (run ti _ _ _ _ ht hx c0 (by rw[hn];exact c1))
   cases ob with
   |row e' ex xs=>obtain⟨zV,h4⟩:=pd h3;have:=aQ zV;subst this;obtain⟨i1,i2,ti,i3,i4,_⟩:=jY b7 hg;exact main xs i1 i2 ⟨ti,i3,i4⟩ h4
   |eZ e' xs=>obtain⟨zV,h4⟩:=pd h3;have:=aQ zV;subst this;obtain⟨i1,i2,i3⟩:=lM b7 hg;exact main xs i1 i2 i3 h4
   |_=>simp at h3
  |vw fQ lo hi=>
   obtain⟨ob,hg,h3⟩:=Rd.bind_some h3;have hg:=cY hg;have main:∀(xs:aU),(c.P fQ).n=xs.length->(∃ti,E.ty el=ah ti/\(c.P fQ).sz=ti.ks.length)->(b,q)=(decide (0<=n)&&decide (n<((hi-lo:aE):az)),AV.rp fQ (lo+n.toNat) 0)->fT P E σ a w c o e.ws:=by
    intro xs hn Ti hbq;obtain⟨rfl,rfl⟩:=bN hbq;obtain rfl:=aD h;have hc:(decide (0<=n)&&decide (n<((hi-lo:aE):az)))=true:=hc;simp only[aF,ba]at hc;obtain⟨c0,c1⟩:=hc;obtain⟨ti,ht,fm⟩:=Ti;obtain⟨v1,v2,v3,v4⟩:=ev;have Li:(c.P fQ).nil=false:=by
     cases hq:(c.P fQ).nil with
     |false=>rfl
     |true=>
      obtain⟨f1,_⟩:(c.P fQ).n=0/\True:=by
       have mg:=b7.obj fQ _ hg;rw[hn];cases ob with
       |row e' ex ys=>obtain⟨j1,j2,_⟩:=jY b7 hg;rw[<-hn,j1,j2 hq];simp
       |eZ e' ys=>obtain⟨j1,j2,_⟩:=lM b7 hg;rw[<-hn,j1,j2 hq];simp
       |_=>simp at h3
      omega
    rcases v4 Li with ⟨u1,hx⟩|⟨u1,oo,u2,hx⟩
    ·refine e9 b7 di hd (s:= .v ak [.rp fQ (lo+n.toNat) 0]) (v:= .pointer (ah (ad (c.P fQ).blk ((c.P fQ).off+lo*(c.P fQ).sz+n.toNat*ti.ks.length)))) ⟨by omega, ?_⟩ (λm hm=>by simp[ch,bw]at hm;subst hm;rw[hg];simp) (run ti _ _ _ _ ht hx c0 c1);rw[<-fm,show(c.P fQ).off+(lo+n.toNat)*(c.P fQ).sz+0=(c.P fQ).off+lo*(c.P fQ).sz+n.toNat*(c.P fQ).sz by rw[dK];omega]
    ·exfalso;have Le:(c.P fQ).n<=(c.P fQ).cap:=by
      cases ob with
      |row e' ex ys=>obtain⟨_,_,_,_,_,j⟩:=jY b7 hg;exact(j Li).1
      |eZ e' ys=>
       obtain⟨j1,j2,_⟩:=b7.obj fQ _ hg;rw[fj Li]at j1;by_cases hz:0<ys.length
       ·obtain⟨t3,U,L⟩:=j1.FI hz;rw[j2];exact L.cap
       ·omega
      |_=>simp at h3
     omega
   cases ob with
   |row e' ex xs=>obtain⟨zV,h4⟩:=pd h3;have:=aQ zV;subst this;obtain⟨i1,i2,ti,i3,i4,_⟩:=jY b7 hg;exact main xs i1 ⟨ti,i3,i4⟩ h4
   |eZ e' xs=>obtain⟨zV,h4⟩:=pd h3;have:=aQ zV;subst this;obtain⟨i1,i2,i3⟩:=lM b7 hg;exact main xs i1 i3 h4
   |_=>simp at h3
  |inn fQ i j=>
   obtain⟨ob,hg,h3⟩:=Rd.bind_some h3;have hg:=cY hg;cases ob with
   |row e' ex xs=>
    cases ex with
    |false=>simp at h3
    |true=>
     obtain⟨te,ht,h3⟩:=Rd.bind_some h3;have ht:=dC ht;split at h3
     ·rename_i e2 xE;obtain⟨zV,h3⟩:=pd h3;obtain⟨rfl,rfl⟩:=bN h3;have:=aQ zV;subst this;obtain rfl:=aD h;obtain⟨⟨jr,hx⟩,hFv⟩:=ev;obtain⟨⟨tj,Tg,fm,lK⟩,fN,_⟩:=b7.obj fQ _ hg;obtain rfl:te=tj:=aD (ht.symm.trans Tg);obtain⟨zs,y',hy,To,uu,_,tk,DL,sA,HD,z7,lU⟩:=py (c:=c) fN lK jr xE;have hc:(decide (0<=n)&&decide (n<((g9 (ar xs i j)).length:az)))=true:=hc;rw[ew hy To]at hc;simp only[aF,ba]at hc;obtain⟨c0,c1⟩:=hc;have c1:n<(zs.length:az):=c1;have Li:(c.G fQ i j).nil=false:=by
       cases hq:(c.G fQ i j).nil with
       |false=>rfl
       |true=>have:=(lU.nil hq).1;subst this;simp at c1;omega
      rw[fj Li]at hx;refine e9 b7 di hd (s:= .v ak [.ip fQ i j n.toNat 0]) (v:= .pointer (ah (ad (c.G fQ i j).blk ((c.G fQ i j).off+n.toNat*tk.ks.length)))) ⟨⟨jr,by rw[lU.n];omega,by rw[HD];rfl⟩,hFv⟩ (λm hm=>by simp[ch,bw]at hm;subst hm;rw[hg];simp) (run tk _ _ _ _ DL hx c0 (by rw[lU.n];exact c1))
     ·simp at h3
   |_=>simp at h3
  |_=>simp[OI]at h3
 |_=>simp at h
end
end Go.FG

namespace Go.FG
section
variable {P:cL} {E:eP} {σ:St} {a:Act} {w:bB} {c:eB} {o:eJ} {nm:aE} {e:qU}
theorem yT(di:eG E σ a w c){x:aA c5}{d n:az}(h:(lV x d).val σ=ah n):(x=aj/\n=d)\/∃y k,x=ah y/\a.eval y= .int k n:=by
 cases x with
 |none=>exact .inl ⟨rfl,(aD h).symm⟩
 |some y=>obtain⟨⟨k,m⟩,h1,h2⟩:=Rd.bind_some h;obtain rfl:=aD h2;exact .inr ⟨y,k,rfl,ox di h1⟩
theorem CC{x:a_}{k:l_}{n:az}{y:aE}{code:BoundsCode}(hx:x= .int k n)(h0:0<=n)(h1:n<=y):(pE x y code).run P w= .ok n.toNat w:=by subst hx;simp only[pE,asIntOf,b8,cB,bn,h0,h1,and_self,if_true]
theorem AE(di:eG E σ a w c){isS:aW}{len cap:aE}{lo hi:aA c5}{l h:az}(hl:(lV lo 0).val σ=ah l)(hh:(lV hi len).val σ=ah h)(h0:0<=l)(h1:l<=h)(h2:h<=cap):
  (lQ isS len cap (lo.map a.eval) (hi.map a.eval) aj).run P w= .ok (l.toNat,h.toNat,cap) w:=by
 have low:∀v,lo=ah v->∀code,(pE (a.eval v) h.toNat code).run P w= .ok l.toNat w:=by
  intro v hv code;rcases yT di hl with ⟨hx,_⟩|⟨y,k,hx,hy⟩
  ·rw[hx]at hv;cases hv
  ·rw[hx]at hv;cases hv;exact CC hy h0 (by omega)
 have high:∀v,hi=ah v->∀code,(pE (a.eval v) cap code).run P w= .ok h.toNat w:=by
  intro v hv code;rcases yT di hh with ⟨hx,_⟩|⟨y,k,hx,hy⟩
  ·rw[hx]at hv;cases hv
  ·rw[hx]at hv;cases hv;exact CC hy (by omega) h2
 have l0:lo=aj->l=0:=λhx=>by rcases yT di hl with ⟨_,hn⟩|⟨y,k,hy,_⟩;exact hn;rw[hx]at hy;cases hy
 have Ru:hi=aj->h=len:=λhx=>by rcases yT di hh with ⟨_,hn⟩|⟨y,k,hy,_⟩;exact hn;rw[hx]at hy;cases hy
 cases lo with
 |none=>
  obtain rfl:=l0 rfl;cases hi with
  |none=>obtain rfl:=Ru rfl;simp[lQ]
  |some v=>simp[lQ,high v rfl]
 |some u=>
  cases hi with
  |none=>obtain rfl:=Ru rfl;have:=low u rfl;simp only[dJ]at this;simp[lQ,this]
  |some v=>simp[lQ,high v rfl,low u rfl]
theorem H7{t:aE}(hu:P.underlying t=ah .string)(di:eG E σ a w c){lo hi:aA c5}{l h:az}{s:aq}(hl:(lV lo 0).val σ=ah l)(hh:(lV hi s.size).val σ=ah h)(h0:0<=l)(h1:l<=h)(h2:h<=(s.size:az)):
  (oZ t (.string s) (lo.map a.eval) (hi.map a.eval) aj).run P w= .ok (.string (s.extract l.toNat h.toNat)) w:=by simp only[oZ,YA,b8,run_underlying hu,bn,Option.isSome_none,cU,if_false,AE (P:=P) di hl hh h0 h1 h2,cB]
theorem iF{t el:aE}{te:TI}(hE:dS P E)(hu:P.underlying t=ah (.slice el))(he:E.ty el=ah te)(di:eG E σ a w c){lo hi:aA c5}{l h:az}{A:aA Addr}{n cp:aE}(hl:(lV lo 0).val σ=ah l)(hh:(lV hi n).val σ=ah h)(h0:0<=l)(h1:l<=h)(h2:h<=(cp:az)):
  (oZ t (.slice A n cp) (lo.map a.eval) (hi.map a.eval) aj).run P w= .ok (.slice (if cp=l.toNat then A else A.map (·.add (l.toNat*te.ks.length))) (h.toNat-l.toNat) (cp-l.toNat)) w:=by obtain⟨inf,km,fm,_⟩:=hE.info el te he;simp only[oZ,YA,b8,run_underlying hu,bn,AE (P:=P) di hl hh h0 h1 h2,sizeOf,typeInfo,program,nA,km,fm,cB]
theorem rW{xs:aU}{lo hi i:aE}:(dW xs lo hi)[i]? =if i<hi-lo then xs[lo+i]? else none:=by unfold dW;rw[d_];split<;>simp[dN]
theorem ld{xs:aU}{lo hi:aE}(h:hi<=xs.length):(dW xs lo hi).length=hi-lo:=by unfold dW;simp;omega
theorem Af{xs:aU}{lo hi:aE}{y:ax CV}(h:y∈dW xs lo hi):y∈xs:=kj (jR h)
theorem Yo{K:aE->Prop}{v:a_}{el:aE}{xs:aU}{te:TI}(he:E.ty el=ah te)(h:cQ E w K v (.l el xs)){lo hi:aE}(h1:lo<=hi)(h2:hi<=xs.length):
  ∃A n cp,v= .slice A n cp/\n=xs.length/\n<=cp\/∃A cp,v= .slice A 0 cp/\xs=[]:=by
 cases h with
 |nl=>exact⟨aj,0,0, .inr ⟨_,_,rfl,rfl⟩⟩
 |l _ _ b oo cp ti U ht hc=>exact⟨_,_,_, .inl ⟨rfl,rfl,hc⟩⟩
theorem Co{K:aE->Prop}{A:aA Addr}{n cp el:aE}{xs:aU}{te:TI}(he:E.ty el=ah te)(h:cQ E w K (.slice A n cp) (.l el xs)){lo hi:aE}(h1:lo<=hi)(h2:hi<=xs.length):
  n=xs.length/\cQ E w K (.slice (if cp=lo then A else A.map (·.add (lo*te.ks.length))) (hi-lo) (cp-lo)) (.l el (dW xs lo hi)):=by
 generalize hv:YB A n cp=v at h;generalize hx:CV.l el xs=x at h;cases h with
 |i=>cases hx
 |b=>cases hx
 |s=>cases hx
 |nl=>
  cases hx;cases hv;have:hi=0:=by simpa using h2
  subst this;have:lo=0:=by omega
  subst this;exact⟨rfl, .nl _ _ _⟩
 |l _ _ b oo cp ti U ht hc hm hK hs hcell gO=>
  cases hx;cases hv;refine⟨rfl, ?_⟩
  obtain rfl:te=ti:=aD (he.symm.trans ht);by_cases hz:hi-lo=0
  ·rw[hz];have:dW xs lo hi=[]:=by unfold dW;rw[hz];simp
   rw[this];exact .nl _ _ _
  ·rw[bJ (by omega)];simp only[fS,Addr.mS];have hl:=ld (xs:=xs) (lo:=lo) h2;rw[<-hl];refine .l el (dW xs lo hi) b (oo+lo*te.ks.length) (cp-lo) te (λi j=>U (lo+i) j) ht (by rw[hl];omega) (by omega) hK (λy hy=>hs y (Af hy)) (λi j y x km hj=> ?_) (λi j y x km hj=> ?_)
   ·rw[rW]at km;split at km
    ·have:=hcell (lo+i) j y x km hj;rw[<-this];congr 2;rw[dK];omega
    ·cases km
   ·rw[rW]at km;split at km
    ·exact gO (lo+i) j y x km hj
    ·cases km
theorem PG(hE:dS P E)(b7:Ok E σ w c)(di:eG E σ a w c)(hd:∀d,o.dst=ah d->d<a.tmps.size){x:c5}{t:aE}{lo hi mx:aA c5}(ho:o.op= .slice t x lo hi mx)(h:(kM E nm o).val σ=ah e)(hc:e.cond=ai):fT P E σ a w c o e.ws:=by
 simp only[kM,ho]at h;cases mx with
 |some m=>simp at h
 |none=>
 obtain⟨kk,hk,h⟩:=Rd.bind_some h;obtain⟨v,h1,h⟩:=Rd.bind_some h;obtain⟨⟨b,q⟩,h3,h⟩:=Rd.bind_some h;obtain⟨ev,kv⟩:=ij di h1;have exec:∀{u r:a_},a.eval x=u->(oZ t u (lo.map a.eval) (hi.map a.eval) aj).run P w= .ok r w->(execOp a.eval o).run P w= .ok (.value r) w:=by intro u r hu hr;unfold execOp;rw[ho];exact ia (by rw[hu];exact hr)
 cases kk with
 |s=>cases v with
  |s s=>have hu:=jX hE hk;obtain⟨l,hl,h3⟩:=Rd.bind_some h3;obtain⟨hh,ug,h3⟩:=Rd.bind_some h3;obtain⟨rfl,rfl⟩:=bN (aD h3);obtain rfl:=aD h;have hc:iy l hh s.size=true:=hc;simp only[iy,aF,ba]at hc;obtain⟨⟨c0,c1⟩,c2⟩:=hc;exact e9 b7 di hd (s:= .v ak [.s _]) (v:= .string _) ⟨rfl,by have h5:=ev.2;unfold HU at h5⊢;rw[vC];omega⟩ (λn hn=>by simp[ch,bw]at hn) (exec ev.1 (H7 (P:=P) hu di hl ug c0 c1 c2))
  |_=>simp[H_]at h3
 |l el=>
  have hu:=jH hE hk;obtain⟨te,HE,h3⟩:=Rd.bind_some h3;have HE:=dC HE;cases v with
  |sh e' xs=>
   obtain⟨zV,h4⟩:=cj h3;have:=aQ zV;subst this;obtain⟨l,hl,h4⟩:=Rd.bind_some h4;obtain⟨hh,ug,h4⟩:=Rd.bind_some h4;obtain⟨rfl,rfl⟩:=bN (aD h4);obtain rfl:=aD h;have hc:iy l hh xs.length=true:=hc;simp only[iy,aF,ba]at hc;obtain⟨⟨c0,c1⟩,c2⟩:=hc;have ev:cQ E w c.K (a.eval x) (.l el xs):=ev;generalize hv:a.eval x=v at ev;cases ev with
   |nl _ A cp=>
    have h0:hh=0:=by simp at c2;omega
    have l0:l=0:=by omega
    subst h0;subst l0;have hr:=iF (P:=P) (te:=te) hE hu HE di (A:=A) (n:=0) (cp:=cp) hl ug (by omega) (by omega) (by omega);exact e9 b7 di hd (s:= .v ak [.sh el (dW [] (0:az).toNat (0:az).toNat)]) (.nl _ _ _) (λn hn=>by simp[ch,bw]at hn) (exec hv hr)
   |l _ _ bb oo cp ti U ht Le hmx hK hs hcell gO=>have hr:=iF (P:=P) (te:=ti) hE hu ht di (A:=ah (ad bb oo)) (cp:=cp) hl ug c0 c1 (by omega);have akW:=(Co (lo:=l.toNat) (hi:=hh.toNat) ht (.l el xs bb oo cp ti U ht Le hmx hK hs hcell gO) (by omega) (by omega)).2;exact e9 b7 di hd (s:= .v ak [.sh el (dW xs l.toNat hh.toNat)]) akW (λn hn=>by simp[ch,bw]at hn) (exec hv hr)
  |own fQ=>
   obtain⟨ob,hg,h3⟩:=Rd.bind_some h3;have hg:=cY hg
   have main:∀(xs:aU),(c.P fQ).n=xs.length->((c.P fQ).nil=ai->xs=[])->(∃ti,E.ty el=ah ti/\(c.P fQ).sz=ti.ks.length)->((c.P fQ).nil=ak->(c.P fQ).n<=(c.P fQ).cap)->
     ((lV lo 0).bind λl=>(lV hi xs.length).bind λh=>Rd.ret (iy l h xs.length,AV.vw fQ l.toNat h.toNat)).val σ=ah (b,q)->fT P E σ a w c o e.ws:=by
    intro xs hn iu Ti hcp h4
    obtain⟨l,hl,h4⟩:=Rd.bind_some h4
    obtain⟨hh,ug,h4⟩:=Rd.bind_some h4
    obtain⟨rfl,rfl⟩:=bN (aD h4)
    obtain rfl:=aD h
    have hc:iy l hh xs.length=true:=hc
    simp only[iy,aF,ba]at hc
    obtain⟨⟨c0,c1⟩,c2⟩:=hc
    obtain⟨ti,ht,fm⟩:=Ti
    have ev:a.eval x=mf (c.P fQ):=ev
    cases hq:(c.P fQ).nil with
    |true=>
     rw[nu hq]at ev;have hx:=iu hq;subst hx;have h0:hh=0:=by simp at c2;omega
     have l0:l=0:=by omega
     subst h0;subst l0;have hr:=iF (P:=P) (te:=ti) hE hu ht di (A:=aj) (n:=0) (cp:=0) hl ug (by omega) (by omega) (by simp);refine e9 b7 di hd (s:= .v ak [.vw fQ 0 0]) (v:= .slice aj 0 0) ⟨cm _,bm _,λ_=>rfl,λhf=>by rw[hq]at hf;cases hf⟩ (λm hm=>by simp[ch,bw]at hm;subst hm;rw[hg];simp) (exec ev (by simpa using hr))
    |false=>
     rw[fj hq]at ev;have hcp:=hcp hq;have hr:=iF (P:=P) (te:=ti) hE hu ht di (A:=ah (ad (c.P fQ).blk (c.P fQ).off)) (n:=(c.P fQ).n) (cp:=(c.P fQ).cap) hl (by rw[hn];exact ug) c0 c1 (by omega);refine e9 b7 di hd (s:= .v ak [.vw fQ l.toNat hh.toNat]) ⟨by omega,by omega,λhf=>(by rw[hq]at hf;cases hf),λ_=> ?_⟩ (λm hm=>by simp[ch,bw]at hm;subst hm;rw[hg];simp) (exec ev hr);by_cases hle:(c.P fQ).cap=l.toNat
     ·refine .inr ⟨hle.symm,(c.P fQ).off,by omega, ?_⟩;rw[bu hle,show hh.toNat-l.toNat=0 by omega,show(c.P fQ).cap-l.toNat=0 by omega]
     ·refine .inl ⟨by omega, ?_⟩;rw[bJ hle];simp only[fS,Addr.mS,fm]
   cases ob with
   |row e' ex xs=>obtain⟨zV,h4⟩:=cj h3;have:=aQ zV;subst this;obtain⟨i1,i2,ti,i3,i4,i5⟩:=jY b7 hg;exact main xs i1 i2 ⟨ti,i3,i4⟩ (λh=>(i5 h).1) h4
   |eZ e' xs=>
    obtain⟨zV,h4⟩:=cj h3;have:=aQ zV;subst this;obtain⟨i1,i2,i3⟩:=lM b7 hg;refine main xs i1 i2 i3 (λLi=> ?_) h4;obtain⟨j1,j2,_⟩:=b7.obj fQ _ hg;rw[fj Li]at j1;by_cases hz:0<xs.length
    ·obtain⟨t3,U,L⟩:=j1.FI hz;rw[j2];exact L.cap
    ·omega
   |_=>simp at h3
  |vw fQ BA Bu=>
   obtain⟨ob,hg,h3⟩:=Rd.bind_some h3;have hg:=cY hg
   have main:(∃ti,E.ty el=ah ti/\(c.P fQ).sz=ti.ks.length)->((c.P fQ).nil=ai->(c.P fQ).n=0)->((c.P fQ).nil=ak->(c.P fQ).n<=(c.P fQ).cap)->
     ((lV lo 0).bind λl=>(lV hi ((Bu-BA:aE):az)).bind λh=>Rd.ret (iy l h ((Bu-BA:aE):az),AV.vw fQ (BA+l.toNat) (BA+h.toNat))).val σ=ah (b,q)->fT P E σ a w c o e.ws:=by
    intro Ti iu hcp h4
    obtain⟨l,hl,h4⟩:=Rd.bind_some h4
    obtain⟨hh,ug,h4⟩:=Rd.bind_some h4
    obtain⟨rfl,rfl⟩:=bN (aD h4)
    obtain rfl:=aD h
    have hc:iy l hh ((Bu-BA:aE):az)=true:=hc
    simp only[iy,aF,ba]at hc
    obtain⟨⟨c0,c1⟩,c2⟩:=hc
    obtain⟨ti,ht,fm⟩:=Ti
    obtain rfl:te=ti:=aD (HE.symm.trans ht)
    obtain⟨v1,v2,v3,v4⟩:=ev
    cases hq:(c.P fQ).nil with
    |true=>
     have hz:=iu hq;have ex:=v3 hq;have hi0:Bu=0:=by omega
     have lo0:BA=0:=by omega
     subst hi0;subst lo0;have h0:hh=0:=by simp at c2;omega
     have l0:l=0:=by omega
     subst h0;subst l0;have hr:=iF (P:=P) (te:=te) hE hu ht di (A:=aj) (n:=0) (cp:=0) hl (by simpa using ug) (by omega) (by omega) (by simp);refine e9 b7 di hd (s:= .v ak [.vw fQ (0+(0:az).toNat) (0+(0:az).toNat)]) (v:= .slice aj 0 0) ⟨cm _,bm _,λ_=>rfl,λhf=>by rw[hq]at hf;cases hf⟩ (λm hm=>by simp[ch,bw]at hm;subst hm;rw[hg];simp) (exec ex (by simpa using hr))
    |false=>
     have hcp:=hcp hq;rcases v4 hq with ⟨u1,ex⟩|⟨u1,oo,u2,ex⟩
     ·have hr:=iF (P:=P) (te:=te) hE hu ht di (A:=ah (ad (c.P fQ).blk ((c.P fQ).off+BA*(c.P fQ).sz))) (n:=Bu-BA) (cp:=(c.P fQ).cap-BA) hl ug c0 c1 (by omega);refine e9 b7 di hd (s:= .v ak [.vw fQ (BA+l.toNat) (BA+hh.toNat)]) ⟨by omega,by omega,λhf=>(by rw[hq]at hf;cases hf),λ_=> ?_⟩ (λm hm=>by simp[ch,bw]at hm;subst hm;rw[hg];simp) (exec ex hr);by_cases hle:(c.P fQ).cap-BA=l.toNat
      ·refine .inr ⟨by omega,(c.P fQ).off+BA*(c.P fQ).sz, ?_, ?_⟩
       ·have:=cN (c.P fQ).sz (Nat.le_of_lt u1);omega
       ·rw[bu hle,show hh.toNat-l.toNat=0 by omega,show(c.P fQ).cap-BA-l.toNat=0 by omega]
      ·refine .inl ⟨by omega, ?_⟩;rw[bJ hle];simp only[fS,Addr.mS,fm];rw[show BA+hh.toNat-(BA+l.toNat)=hh.toNat-l.toNat by omega,show(c.P fQ).cap-(BA+l.toNat)=(c.P fQ).cap-BA-l.toNat by omega,dK,sb]
     ·have hr:=iF (P:=P) (te:=te) hE hu ht di (A:=ah (ad (c.P fQ).blk oo)) (n:=0) (cp:=0) hl (by rw[show Bu-BA=0 by omega]at ug;exact ug) c0 c1 (by omega);have h0:hh=0:=by omega
      have l0:l=0:=by omega
      subst h0;subst l0;refine e9 b7 di hd (s:= .v ak [.vw fQ (BA+(0:az).toNat) (BA+(0:az).toNat)]) (v:= .slice (ah (ad (c.P fQ).blk oo)) 0 0) ⟨cm _,by simp;omega,λhf=>(by rw[hq]at hf;cases hf),λ_=> .inr ⟨by simpa using u1,oo,u2,rfl⟩⟩ (λm hm=>by simp[ch,bw]at hm;subst hm;rw[hg];simp) (exec ex (by simpa using hr))
   cases ob with
   |row e' ex xs=>obtain⟨zV,h4⟩:=cj h3;have:=aQ zV;subst this;obtain⟨i1,i2,ti,i3,i4,i5⟩:=jY b7 hg;exact main ⟨ti,i3,i4⟩ (λhn=>by rw[i1,i2 hn];rfl) (λh=>(i5 h).1) h4
   |eZ e' xs=>
    obtain⟨zV,h4⟩:=cj h3;have:=aQ zV;subst this;obtain⟨i1,i2,i3⟩:=lM b7 hg;refine main i3 (λhn=>by rw[i1,i2 hn];rfl) (λLi=> ?_) h4;obtain⟨j1,j2,_⟩:=b7.obj fQ _ hg;rw[fj Li]at j1;by_cases hz:0<xs.length
    ·obtain⟨t3,U,L⟩:=j1.FI hz;rw[j2];exact L.cap
    ·omega
   |_=>simp at h3
  |inn fQ i j=>
   obtain⟨ob,hg,h3⟩:=Rd.bind_some h3;have hg:=cY hg;cases ob with
   |row e' ex xs=>
    cases ex with
    |false=>simp at h3
    |true=>
     obtain⟨t1,Z7,h3⟩:=Rd.bind_some h3;have Z7:=dC Z7;split at h3
     ·rename_i e2 xE;obtain⟨zV,h4⟩:=cj h3;have:=aQ zV;subst this;obtain⟨⟨jr,hx⟩,hFv⟩:=ev;obtain⟨⟨tj,Tg,atf,lK⟩,fN,_⟩:=b7.obj fQ _ hg;obtain rfl:t1=tj:=aD (Z7.symm.trans Tg);obtain⟨zs,y',hy,To,uu,_,ti,ht,sA,fm,z7,lU⟩:=py (c:=c) fN lK jr xE;rw[ew hy To]at h4;obtain⟨l,hl,h4⟩:=Rd.bind_some h4;obtain⟨hh,ug,h4⟩:=Rd.bind_some h4;obtain⟨rfl,rfl⟩:=bN (aD h4);obtain rfl:=aD h;have hc:iy l hh zs.length=true:=hc;have ug:(lV hi (zs.length:az)).val σ=ah hh:=ug;simp only[iy,aF,ba]at hc;obtain⟨⟨c0,c1⟩,c2⟩:=hc;have hn:=lU.n;cases hq:(c.G fQ i j).nil with
      |true=>
       rw[nu hq]at hx;have hz:=(lU.nil hq).1;subst hz;have h0:hh=0:=by simp at c2;omega
       have l0:l=0:=by omega
       subst h0;subst l0;have hr:=iF (P:=P) (te:=ti) hE hu ht di (A:=aj) (n:=0) (cp:=0) hl ug (by omega) (by omega) (by simp);refine e9 b7 di hd (s:= .v ak [.iv fQ i j 0 0]) (v:= .slice aj 0 0) ⟨⟨jr,cm _,bm _,λ_=>rfl,λhf=>by rw[hq]at hf;cases hf⟩,hFv⟩ (λm hm=>by simp[ch,bw]at hm;subst hm;rw[hg];simp) (exec hx (by simpa using hr))
      |false=>
       rw[fj hq]at hx;have hcp:(c.G fQ i j).n<=(c.G fQ i j).cap:=by obtain⟨_,_,q,_⟩:=lU.mem hq;exact q
       have hr:=iF (P:=P) (te:=ti) hE hu ht di (A:=ah (ad (c.G fQ i j).blk (c.G fQ i j).off)) (n:=(c.G fQ i j).n) (cp:=(c.G fQ i j).cap) hl (by rw[hn];exact ug) c0 c1 (by omega);refine e9 b7 di hd (s:= .v ak [.iv fQ i j l.toNat hh.toNat]) ⟨⟨jr,by omega,by omega,λhf=>(by rw[hq]at hf;cases hf),λ_=> ?_⟩,hFv⟩ (λm hm=>by simp[ch,bw]at hm;subst hm;rw[hg];simp) (exec hx hr);by_cases hle:(c.G fQ i j).cap=l.toNat
       ·refine .inr ⟨hle.symm,(c.G fQ i j).off,by omega, ?_⟩;rw[bu hle,show hh.toNat-l.toNat=0 by omega,show(c.G fQ i j).cap-l.toNat=0 by omega]
       ·refine .inl ⟨by omega, ?_⟩;rw[bJ hle];simp only[fS,Addr.mS,fm]
     ·simp at h3
   |_=>simp at h3
  |nl=>
   obtain⟨l,hl,h4⟩:=Rd.bind_some h3;obtain⟨hh,ug,h4⟩:=Rd.bind_some h4;obtain⟨rfl,rfl⟩:=bN (aD h4);obtain rfl:=aD h;have hc:iy l hh 0=true:=hc;simp only[iy,aF,ba]at hc;obtain⟨⟨c0,c1⟩,c2⟩:=hc;have h0:hh=0:=by omega
   have l0:l=0:=by omega
   subst h0;subst l0;have hr:=iF (P:=P) (te:=te) hE hu HE di (A:=aj) (n:=0) (cp:=0) hl ug (by omega) (by omega) (by simp);exact e9 b7 di hd (s:= .v ak [.nl]) (v:= .slice aj 0 0) rfl (λn hn=>by simp[ch,bw]at hn) (exec ev (by simpa using hr))
  |_=>simp[Qm,Ql]at h3
 |_=>simp[H_]at h3
end
end Go.FG

namespace Go.FG
section
variable {P:cL} {E:eP} {σ:St} {a:Act} {w:bB} {c:eB} {o:eJ} {nm:aE} {e:qU}
theorem LY(b7:Ok E σ w c){x:AV}{v:a_}(hx:dP E w c x v){el:aE}{xs:aU}(h:(lk E x).val σ=ah (el,xs)):∃A cp,v= .slice A xs.length cp:=by
 cases x with
 |sh e' ys=>
  obtain⟨rfl,rfl⟩:=bN (aD h);have hx:cQ E w c.K v (.l e' ys):=hx;cases hx with
  |nl=>exact⟨_,_,rfl⟩
  |l=>exact⟨_,_,rfl⟩
 |own n=>
  obtain⟨ob,hg,h⟩:=Rd.bind_some h;have hg:=cY hg;have hx:v=mf (c.P n):=hx;have main:∀ys:aU,(c.P n).n=ys.length->((c.P n).nil=ai->ys=[])->∃A cp,v= .slice A ys.length cp:=by
   intro ys h1 h2;cases hq:(c.P n).nil with
   |true=>rw[hx,nu hq,h2 hq];exact⟨_,_,rfl⟩
   |false=>rw[hx,fj hq,h1];exact⟨_,_,rfl⟩
  cases ob with
  |row e' ex ys=>obtain⟨rfl,rfl⟩:=bN (aD h);obtain⟨i1,i2,_⟩:=jY b7 hg;exact main _ i1 i2
  |eZ e' ys=>obtain⟨rfl,rfl⟩:=bN (aD h);obtain⟨i1,i2,_⟩:=lM b7 hg;exact main _ i1 i2
  |_=>simp at h
 |vw n lo hi=>
  obtain⟨ob,hg,h⟩:=Rd.bind_some h;have hg:=cY hg;obtain⟨v1,v2,v3,v4⟩:=hx;have main:∀ys:aU,(c.P n).n=ys.length->((c.P n).nil=ai->ys=[])->((c.P n).nil=ak->(c.P n).n<=(c.P n).cap)->∃A cp,v= .slice A (dW ys lo hi).length cp:=by
   intro ys h1 h2 h3;rw[ld (by omega)];cases hq:(c.P n).nil with
   |true=>have:=h2 hq;subst this;rw[v3 hq,show hi-lo=0 by simp at h1;omega];exact⟨_,_,rfl⟩
   |false=>
    rcases v4 hq with ⟨_,h⟩|⟨u1,oo,_,h⟩
    ·rw[h];exact⟨_,_,rfl⟩
    ·have:=h3 hq;rw[h,show hi-lo=0 by omega];exact⟨_,_,rfl⟩
  cases ob with
  |row e' ex ys=>obtain⟨rfl,rfl⟩:=bN (aD h);obtain⟨i1,i2,ti,_,_,i5⟩:=jY b7 hg;exact main _ i1 i2 (λh=>(i5 h).1)
  |eZ e' ys=>
   obtain⟨rfl,rfl⟩:=bN (aD h);obtain⟨i1,i2,_⟩:=lM b7 hg;refine main _ i1 i2 (λLi=> ?_);obtain⟨j1,j2,_⟩:=b7.obj n _ hg;rw[fj Li]at j1;by_cases hz:0<ys.length
   ·obtain⟨t3,U,L⟩:=j1.FI hz;rw[j2];exact L.cap
   ·omega
  |_=>simp at h
 |inn n i j=>
  obtain⟨ob,hg,h⟩:=Rd.bind_some h;have hg:=cY hg;cases ob with
  |row e' ex ys=>
   cases ex with
   |false=>simp at h
   |true=>
   obtain⟨te,ht,h⟩:=Rd.bind_some h;have ht:=dC ht;split at h
   ·rename_i e2 xE;obtain⟨rfl,rfl⟩:=bN (aD h);obtain⟨⟨jr,hx⟩,_⟩:=hx;obtain⟨⟨tj,Tg,fm,lK⟩,fN,_⟩:=b7.obj n _ hg;obtain rfl:te=tj:=aD (ht.symm.trans Tg);obtain⟨zs,y',hy,To,uu,_,tk,DL,sA,HD,z7,lU⟩:=py (c:=c) fN lK jr xE;rw[ew hy To];cases hq:(c.G n i j).nil with
    |true=>rw[hx,nu hq,show g9 (.l e2 zs)=zs from rfl,(lU.nil hq).1];exact⟨_,_,rfl⟩
    |false=>rw[hx,fj hq,lU.n];exact⟨_,_,rfl⟩
   ·simp at h
  |_=>simp at h
 |_=>simp[lk]at h
theorem lH{cl:Call}{b:Builtin}(ho:o.op= .call cl)(hb:cl.callee= .builtin b):
  ∃cs,(execOp a.eval o).run P w=(builtin b cl.argTypes o.type cs (cl.args.map a.eval)).run P w:=by unfold execOp;rw[ho];simp only[resolve,hb,b8,cB,bn,invoke];exact⟨_,rfl⟩
theorem mr{α:Type}{x:c_ α}{y:α}(h:x.toList=[y]):x= #[y]:=by apply qG;simpa using h
theorem AO{α:Type}{x:c_ α}{y z:α}(h:x.toList=[y,z]):x= #[y,z]:=by apply qG;simpa using h
theorem aaX(hE:dS P E)(b7:Ok E σ w c)(di:eG E σ a w c)(hd:∀d,o.dst=ah d->d<a.tmps.size){cl:Call}(ho:o.op= .call cl)(hb:cl.callee= .builtin .len)(h:(kM E nm o).val σ=ah e):fT P E σ a w c o e.ws:=by
 simp only[kM,ho,hb]at h;split at h
 ·rename_i x t hx ht;obtain⟨k,hk,h⟩:=Rd.bind_some h;obtain⟨v,h1,h⟩:=Rd.bind_some h;obtain⟨n,h2,h⟩:=Rd.bind_some h;obtain⟨ev,kv⟩:=ij di h1;have hx:=mr hx;have ht:=mr ht;have exec:∀r,(ud #[t] o.type #[a.eval x]).run P w= .ok r w->(execOp a.eval o).run P w= .ok (.value r) w:=by intro r hr;obtain⟨cs,A3⟩:=lH (P:=P) (a:=a) (w:=w) ho hb;rw[A3,hx,ht];simp only[builtin,Bc,eK,zm];exact ia hr
  have fin:∀m:aE,n=m->(ud #[t] o.type #[a.eval x]).run P w= .ok (goInt m) w->fT P E σ a w c o e.ws:=by intro m hm hr;subst hm;exact e_ b7 di hd h (v:=goInt m) rfl (λn hn=>by simp[ch,bw]at hn) (exec _ hr)
  cases k with
  |s=>cases v with
   |s s=>obtain rfl:=aD h2;have ev:a.eval x= .string s:=ev.1;exact fin s.size rfl (by rw[ev];simp[ud,run_underlying (jX hE hk)])
   |_=>simp[aaq]at h2
  |l el=>
   have hu:=jH hE hk;have sl:∀A (m:aE) cp,a.eval x= .slice A m cp->n=m->fT P E σ a w c o e.ws:=by intro A m cp hv hn;exact fin m hn (by rw[hv];simp[ud,run_underlying hu])
   have gen:∀(el':aE) (xs:aU),(lk E v).val σ=ah (el',xs)->n=xs.length->fT P E σ a w c o e.ws:=by intro el' xs hr hn;obtain⟨A,cp,hv⟩:=LY b7 ev hr;exact sl _ _ _ hv hn
   cases v with
   |nl=>obtain rfl:=aD h2;exact sl aj 0 0 ev rfl
   |vw m lo hi=>
    obtain⟨ob,hg,h2⟩:=Rd.bind_some h2;have hg:=cY hg;have r1:∃(e1:aE) (ys:aU),(lk E (.vw m lo hi)).val σ=ah (e1,dW ys lo hi)/\(c.P m).n=ys.length/\n=((hi-lo:aE):az):=by
     cases ob with
     |row e1 ex ys=>exact⟨e1,ys,by simp[lk,iE,hg],(jY b7 hg).1,(aD h2).symm⟩
     |eZ e1 ys=>exact⟨e1,ys,by simp[lk,iE,hg],(lM b7 hg).1,(aD h2).symm⟩
     |_=>simp at h2
    obtain⟨e1,ys,h5,h6,h7⟩:=r1;refine gen e1 _ h5 ?_;rw[ld (by have:=ev.2.1;omega)];exact h7
   |_=>obtain⟨⟨el',xs⟩,hr,h3⟩:=Rd.bind_some h2;obtain rfl:=aD h3;exact gen el' xs hr rfl
  |_=>simp[aaq]at h2
 ·simp at h
end
end Go.FG

namespace Go.FG
section
variable {P:cL} {E:eP} {σ:St} {a:Act} {w:bB} {c:eB} {o:eJ} {nm:aE} {e:qU}
theorem wL{α:Type}{x:aA α}{σ:St}{r:α}(h:(PI x).val σ=ah r):x=ah r:=by
 cases x with
 |none=>simp[PI]at h
 |some y=>exact h
theorem aaW(hE:dS P E)(b7:Ok E σ w c)(di:eG E σ a w c)(hd:∀d,o.dst=ah d->d<a.tmps.size){cl:Call}(ho:o.op= .call cl)(hb:cl.callee= .builtin .cap)(h:(kM E nm o).val σ=ah e):fT P E σ a w c o e.ws:=by
 simp only[kM,ho,hb]at h;split at h
 ·rename_i x t hx ht;obtain⟨k,hk,h⟩:=Rd.bind_some h;have hx:=mr hx;have ht:=mr ht;cases k with
  |l el=>
   obtain⟨v,h1,h⟩:=Rd.bind_some h;obtain⟨ev,kv⟩:=ij di h1;have hu:=jH hE hk;cases v with
   |nl=>refine e_ b7 di hd h (v:=goInt 0) rfl (λn hn=>by simp[ch,bw]at hn) ?_;obtain⟨cs,A3⟩:=lH (P:=P) (a:=a) (w:=w) ho hb;rw[A3,hx,ht];simp only[builtin,Bc,eK,zm];refine ia ?_;rw[show a.eval x= .slice aj 0 0 from ev];simp[Builtin.cap_,run_underlying hu]
   |_=>simp at h
  |_=>simp at h
 ·simp at h
theorem HL(di:eG E σ a w c)(mx:aW):∀(r:ax c5) (k:l_) (n:az) (v:AV),(uY mx r k n).val σ=ah v->
  ∃m,v= .i k m/\((r.map a.eval).foldlM (if mx then BQ else BR) (.int k n)).run P w= .ok (.int k m) w:=by
 intro r;induction r with
 |nil=>intro k n v h;obtain rfl:=aD h;exact⟨n,rfl,rfl⟩
 |cons x r ih=>
  intro k n v h;obtain⟨⟨k2,m⟩,h1,h2⟩:=Rd.bind_some h;have hx:=ox di h1;obtain⟨q,hq,hr⟩:=ih k (mm mx n m) v h2;refine⟨q,hq, ?_⟩
  simp only[eK,List.foldlM_cons,b8,hx];cases mx with
  |true=>
   have:(BQ (.int k n) (.int k2 m)).run P w= .ok (.int k (mm ai n m)) w:=by simp[BQ,mm]
   simp only[if_true,this,bn]at hr⊢;exact hr
  |false=>
   have:(BR (.int k n) (.int k2 m)).run P w= .ok (.int k (mm ak n m)) w:=by simp[BR,mm]
   simp only[cU,if_false,this,bn]at hr⊢;exact hr
theorem Cu(mx:aW)(b7:Ok E σ w c)(di:eG E σ a w c)(hd:∀d,o.dst=ah d->d<a.tmps.size){cl:Call}(ho:o.op= .call cl)(hb:cl.callee= .builtin (if mx then .max else .min))(h:(kM E nm o).val σ=ah e):fT P E σ a w c o e.ws:=by
 have main:∀x r,cl.args.toList=x::r->((Ao x).bind λ(k,n)=>(uY mx r k n).bind λv=>wU o v).val σ=ah e->fT P E σ a w c o e.ws:=by
  intro x r hx h;obtain⟨⟨k,n⟩,h1,h⟩:=Rd.bind_some h;obtain⟨v,h2,h⟩:=Rd.bind_some h;have ex:=ox di h1;obtain⟨m,rfl,hr⟩:=HL (P:=P) di mx r k n v h2;refine e_ b7 di hd h (v:= .int k m) rfl (λn hn=>by simp[ch,bw]at hn) ?_;obtain⟨cs,A3⟩:=lH (P:=P) (a:=a) (w:=w) ho hb;have qA:cl.args.map a.eval=((x::r).map a.eval).toArray:=by rw[<-hx];apply qG;simp
  rw[A3,qA];cases mx with
  |true=>simp only[if_true,builtin];refine ia ?_;simp only[Builtin.max_,eK,ex];exact hr
  |false=>simp only[cU,if_false,builtin];refine ia ?_;simp only[Builtin.min_,eK,ex];exact hr
 cases mx with
 |true=>
  simp only[kM,ho,hb,if_true]at h;split at h
  ·rename_i x r hx;exact main x r hx h
  ·simp at h
 |false=>
  simp only[kM,ho,hb,cU,if_false]at h;split at h
  ·rename_i x r hx;exact main x r hx h
  ·simp at h
theorem Qd{op:BinOp}{t:aE}{k:l_}{m n:az}{b:aW}{v:AV}(hs:Lv op=ak)(h:Zf op k m n=ah (b,v))(hb:b=ai):
  ∃u,dP E w c v u/\bw v=[]/\(binOp op t (.int k m) (.int k n)).run P w= .ok u w:=by
 subst hb;cases op<;>simp only[Zf,iM,iw,true_and,reduceCtorEq]at h<;>first|(simp[Lv]at hs;done)|skip
 case quo=>
  obtain⟨h1,rfl⟩:=h
  have hn:¬n=0:=by simpa using h1
  exact⟨_,rfl,rfl,by simp[binOp,Op.intDiv,hn]⟩
 case rem=>
  obtain⟨h1,rfl⟩:=h
  have hn:¬n=0:=by simpa using h1
  exact⟨_,rfl,rfl,by simp[binOp,Op.intDiv,hn]⟩
 all_goals (subst h;exact⟨_,rfl,rfl,by simp[binOp,Op.intArith,Op.intBits,Op.intCmp]⟩)
theorem Qe{op:BinOp}{t:aE}{m n:aq}{b:aW}{v:AV}(hs:Lv op=ak)(h:Zh op m n=ah (b,v))(hb:b=ai):
  ∃u,dP E w c v u/\bw v=[]/\(binOp op t (.string m) (.string n)).run P w= .ok u w:=by
 subst hb;cases op<;>simp only[Zh,iM,iw,true_and,reduceCtorEq]at h<;>first|(simp[Lv]at hs;done)|skip
 case add=>
  obtain⟨h1,rfl⟩:=h
  have h1:=cg h1
  refine⟨_,⟨rfl,by unfold HU;rw[dn];omega⟩,rfl, ?_⟩
  have:¬(((m.size+n.size:aE):az)>ao.max):=by
   have:ao.max=9223372036854775807:=by decide
   omega
  simp only[binOp,Op.stringOp,bJ this,cB]
 all_goals (subst h;exact⟨_,rfl,rfl,by simp[binOp,Op.stringOp]⟩)
theorem vf{op:BinOp}{t:aE}{x y:c5}{u v:a_}(hu:∀xs,u≠ .agg xs)(hn:u≠ .nilIface):(eqGuard op t x y u v).run P w= .ok () w:=by unfold eqGuard;cases op<;>cases u<;>first|rfl|(exact cw rfl (hu _))|(exact cw rfl hn)|(cases v<;>rfl)
theorem ve{P:cL}(w:bB){t:aE}(h:P.underlying t=ah .bool)(m n:aW):(binOp .eql t (.bool m) (.bool n)).run P w= .ok (.bool (m==n)) w/\(binOp .neq t (.bool m) (.bool n)).run P w= .ok (.bool !(m==n)) w:=by
 have h1:(Op.equal t (.bool m) (.bool n)).run P w= .ok (m==n) w:=by show(Op.equalIn (9999+1) t (.bool m) (.bool n)).run P w=_;exact run_equalIn_bool w 9999 t m n h
 simp only[binOp,b8,h1,bn,cB];exact⟨trivial,trivial⟩
theorem Ax{xs:ax AV}{ks:ax Ck}(hk:xs.map DO=ks)(hp:plain ks=ai){vals:c_ a_}(hs:vals.size=xs.length)(hv:∀(j:aE) (a:AV),xs[j]? =ah a->∃u:a_,vals[j]? =ah u/\dP E w c a u):vals=(xs.map kI).toArray:=by
 apply qG;apply Ri;intro j;simp only[cC,bz];cases hx:xs[j]? with
 |none=>have:=List.getElem?_eq_none_iff.1 hx;simp;omega
 |some a=>
  obtain⟨u,hu,ha⟩:=hv j a hx;rw[hu];have hm:DO a∈ks:=by rw[<-hk];exact cO.2 ⟨a,aP hx,rfl⟩
  have mL:=bj.1 hp _ hm;cases a<;>simp[DO]at mL<;>first|(have h1:u=_:=ha;rw[h1];rfl)|(have h1:u=_:=ha.1;rw[h1];rfl)
theorem Su(hE:dS P E){op:BinOp}{t:aE}{x y:c5}{sx sy:SV}{ux uy:a_}(ex:iA E w c sx ux)(ey:iA E w c sy uy){b:aW}{v:AV}(h3:(Zg E t op sx sy).val σ=ah (b,v))(hc:b=ai):
  ∃u,dP E w c v u/\bw v=[]/\(do eqGuard op t x y ux uy;binOp op t ux uy).run P w= .ok u w:=by
 have fin:∀u,dP E w c v u->bw v=[]->(do eqGuard op t x y ux uy;binOp op t ux uy).run P w= .ok u w->∃u,dP E w c v u/\bw v=[]/\(do eqGuard op t x y ux uy;binOp op t ux uy).run P w= .ok u w:=
  λu hu hn hr=>⟨u,hu,hn,hr⟩
 have pl:∀u1 u2 r,ux=u1->uy=u2->(∀xs,u1≠ .agg xs)->u1≠ .nilIface->(binOp op t u1 u2).run P w= .ok r w->(do eqGuard op t x y ux uy;binOp op t ux uy).run P w= .ok r w:=by intro u1 u2 r h1 h2 h3 h4 h5;rw[h1,h2];simp only[b8,vf (P:=P) (w:=w) (op:=op) (t:=t) (x:=x) (y:=y) (v:=u2) h3 h4,bn,h5]
 unfold Zg at h3;split at h3
 ·rename_i p q;have ex:dP E w c p ux:=ex;have ey:dP E w c q uy:=ey;cases lK:Lv op with
  |true=>
   rw[lK]at h3;replace h3:=wL h3;cases p<;>cases q<;>first|(simp[shV]at h3;done)|skip
   cases op<;>simp only[shV,iM,iw,reduceCtorEq]at h3<;>(obtain⟨rfl,rfl⟩:=h3)
   ·refine fin _ rfl rfl (pl _ _ _ ex ey (by simp) (by simp) ?_);have:¬(_:az)<0:=Int.not_lt.2 (cg hc);simp[binOp,Op.shift,this]
   ·refine fin _ rfl rfl (pl _ _ _ ex ey (by simp) (by simp) ?_);have:¬(_:az)<0:=Int.not_lt.2 (cg hc);simp[binOp,Op.shift,this]
  |false=>
   rw[lK]at h3;obtain⟨k,hk,h3⟩:=Rd.bind_some h3;replace h3:=wL h3;cases p with
   |i k1 m=>
    cases q with
    |i k2 n=>
     have h9:=h3;simp only[G5]at h9;split at h9
     ·rename_i S7;subst S7;obtain⟨u,hu,hn,hr⟩:=Qd (P:=P) (t:=t) (E:=E) (c:=c) (w:=w) lK h9 hc;exact fin u hu hn (pl _ _ _ ex ey (by simp) (by simp) hr)
     ·cases h9
    |_=>simp[G5]at h3
   |s m=>
    cases q with
    |s n=>obtain⟨u,hu,hn,hr⟩:=Qe (P:=P) (t:=t) (E:=E) (c:=c) (w:=w) lK h3 hc;exact fin u hu hn (pl _ _ _ ex.1 ey.1 (by simp) (by simp) hr)
    |_=>simp[G5]at h3
   |b m=>
    cases q with
    |b n=>
     have V4:k= .b->P.underlying t=ah .bool:=by rintro rfl;obtain⟨ti,q1,q2,q3⟩:=qh hk;obtain⟨d,V7,_,hn⟩:=hE.desc t ti q1;rcases hn q2 with ⟨k,h,_⟩|⟨h,rfl⟩|⟨h,_⟩|⟨e',h,_⟩|⟨h,_⟩<;>rw[q3]at h<;>simp_all
     cases op<;>cases k<;>simp only[G5,iM,iw,reduceCtorEq]at h3<;>(obtain⟨rfl,rfl⟩:=h3)
     ·refine fin _ rfl rfl (pl _ _ _ ex ey (by simp) (by simp) ?_);exact(ve (P:=P) w (V4 rfl) _ _).1
     ·refine fin _ rfl rfl (pl _ _ _ ex ey (by simp) (by simp) ?_);exact(ve (P:=P) w (V4 rfl) _ _).2
    |_=>simp[G5]at h3
   |_=>simp[G5]at h3
 ·rename_i xs ys;obtain⟨ti,ht,h3⟩:=Rd.bind_some h3;have ht:=dC ht;obtain⟨h4,h3⟩:=cj h3;simp only[aF]at h4;obtain⟨⟨⟨⟨h5,h6⟩,h7⟩,h8⟩,h9⟩:=h4;have h7:=qd h7;have h8:=qd h8;replace h3:=wL h3;obtain⟨X,hX,sX,vX⟩:=ex;obtain⟨Y,hY,sY,vY⟩:=ey;have eX:=Ax h7 h9 sX vX;have eY:=Ax h8 h9 sY vY;cases hq:SK xs ys with
  |none=>rw[hq]at h3;cases h3
  |some r=>
   rw[hq]at h3;obtain⟨r1,r2⟩:=hE.eq t ti h6 ht w x y xs ys r hq h7 h8;cases op<;>first|(simp[isEq]at h5;done)|skip
   ·obtain⟨_,rfl⟩:=bN (aD h3);exact fin _ rfl rfl (by rw[hX,hY,eX,eY];exact r1)
   ·obtain⟨_,rfl⟩:=bN (aD h3);exact fin _ rfl rfl (by rw[hX,hY,eX,eY];exact r2)
 ·simp at h3
theorem PB(hE:dS P E)(b7:Ok E σ w c)(di:eG E σ a w c)(hd:∀d,o.dst=ah d->d<a.tmps.size){op:BinOp}{t ty:aE}{x y:c5}(ho:o.op= .binOp op t x y ty)(h:(kM E nm o).val σ=ah e)(hc:e.cond=ai):fT P E σ a w c o e.ws:=by simp only[kM,ho]at h;obtain⟨sx,h1,h⟩:=Rd.bind_some h;obtain⟨sy,h2,h⟩:=Rd.bind_some h;obtain⟨⟨b,v⟩,h3,h⟩:=Rd.bind_some h;obtain rfl:=aD h;obtain⟨u,hu,hn,hr⟩:=Su (P:=P) (x:=x) (y:=y) hE (kX di h1).1 (kX di h2).1 h3 hc;refine e9 b7 di hd (s:= .v ak [v]) hu (λn jG=>by simp[ch,hn]at jG) ?_;unfold execOp;rw[ho];exact ia hr
end
end Go.FG

namespace Go.FG
theorem Io{p:Pl}(hn:p.nil=ak->p.n<=p.cap)(hz:p.nil=ai->p.n=0):tJ p 0 p.n (mf p):=by
 refine⟨bm _,cm _,λh=>nu h,λh=> ?_⟩
 rw[fj h];by_cases hc:p.cap=0
 ·refine .inr ⟨hc.symm,p.off,Nat.le_add_right _ _, ?_⟩;have:=hn h;rw[hc,show p.n=0 by omega]
 ·refine .inl ⟨by omega, ?_⟩;simp
theorem pD(xs:aU):dW xs 0 xs.length=xs:=by unfold dW;simp
def mZ(w:bB)(v:a_)(xs:aU)(sz:aE)(R:aE->aE->a_->CV->Prop):Prop:=
 ∃A cp,v= .slice A xs.length cp/\(xs≠[]->∃b o,A=ah (ad b o)/\∀(i:aE) (y:ax CV) (j:aE) (x:CV),xs[i]? =ah y->y[j]? =ah x->∃u:a_,w.cell? (ad b (o+i*sz+j))=ah u/\R i j u x)
theorem mZ.imp{w:bB}{v:a_}{xs:aU}{sz:aE}{R R':aE->aE->a_->CV->Prop}(h:mZ w v xs sz R)(hR:∀(i:aE) (y:ax CV) (j:aE) (x:CV) (u:a_),xs[i]? =ah y->y[j]? =ah x->R i j u x->R' i j u x):mZ w v xs sz R':=by
 obtain⟨A,cp,h1,h2⟩:=h;refine⟨A,cp,h1,λiq=> ?_⟩
 obtain⟨b,o,h3,h4⟩:=h2 iq;refine⟨b,o,h3,λi y j x hi hj=> ?_⟩
 obtain⟨u,hu,hr⟩:=h4 i y j x hi hj;exact⟨u,hu,hR i y j x u hi hj hr⟩
theorem Ih{w:bB}{p:Pl}{xs:aU}{R:aE->aE->a_->CV->Prop}{lo hi:aE}{v:a_}(h:im w p xs R)(hv:tJ p lo hi v):mZ w v (dW xs lo hi) p.sz (λi j u x=>R (lo+i) j u x):=by
 obtain⟨v1,v2,v3,v4⟩:=hv;have hl:=ld (xs:=xs) (lo:=lo) (hi:=hi) (by rw[<-h.n];exact v2);cases hq:p.nil with
 |true=>
  have hx:=(h.nil hq).1;have h0:=h.n;rw[hx]at h0;refine⟨aj,0, ?_,λiq=>cw (by rw[hx];unfold dW;simp) iq⟩
  rw[v3 hq,hl];have:p.n=0:=h0;congr 1;omega
 |false=>
  obtain⟨vals,hb,Wg,hcm,mK,hc⟩:=h.mem hq;rcases v4 hq with ⟨u1,rfl⟩|⟨u1,oo,u2,rfl⟩
  ·refine⟨_,_,by rw[hl],λiq=>⟨_,_,rfl,λi y j x km hj=> ?_⟩⟩
   rw[rW]at km;split at km
   ·obtain⟨u,hu,hr⟩:=hc (lo+i) y j x km hj;refine⟨u, ?_,hr⟩
    rw[hb.cell,<-hu];congr 1;rw[dK];omega
   ·cases km
  ·have h0:hi-lo=0:=by omega
   refine⟨_,_,by rw[hl,h0],λiq=>cw (fa (hl.trans h0)) iq⟩
theorem z5{E:eP}{w:bB}{K:aE->Prop}{p:Pl}{e:aE}{te:TI}{xs:aU}(he:E.ty e=ah te)(h:cQ E w K (mf p) (.l e xs))(hn:p.n=xs.length)(hs:p.sz=te.ks.length){lo hi:aE}{v:a_}(hv:tJ p lo hi v):cQ E w K v (.l e (dW xs lo hi)):=by
 obtain⟨v1,v2,v3,v4⟩:=hv;have hl:=ld (xs:=xs) (lo:=lo) (hi:=hi) (by rw[<-hn];exact v2);have nil:hi-lo=0->dW xs lo hi=[]:=λh0=>fa (hl.trans h0);cases hq:p.nil with
 |true=>
  rw[nu hq]at h;have hx:xs=[]:=by cases h;rfl
  subst hx;have hn:p.n=0:=hn;rw[v3 hq,nil (by omega)];exact .nl _ _ _
 |false=>
  rw[fj hq]at h;rcases v4 hq with ⟨u1,rfl⟩|⟨u1,oo,u2,rfl⟩
  ·have:=(Co (lo:=lo) (hi:=hi) he h v1 (by rw[<-hn];exact v2)).2;rw[bJ (by omega)]at this;simpa only[fS,Addr.mS,hs]using this
  ·by_cases hz:hi-lo=0
   ·rw[nil hz];exact .nl _ _ _
   ·have h1:0<xs.length:=by omega
    obtain⟨t3,U,L⟩:=h.FI h1;have:=L.cap;omega
theorem CG{E:eP}{w:bB}{K:aE->Prop}{v:a_}{e:aE}{te:TI}{xs:aU}(he:E.ty e=ah te)(h:cQ E w K v (.l e xs)):mZ w v xs te.ks.length (λ_ _ u x=>cQ E w K u x)/\∀y∈xs,y.map CV.kd=te.ks:=by
 cases h with
 |nl=>exact⟨⟨_,_,rfl,λh=>cw rfl h⟩,λy hy=>by cases hy⟩
 |l _ _ b o cp ti U ht hc hm hK hs hcell gO=>obtain rfl:te=ti:=aD (he.symm.trans ht);exact⟨⟨_,_,rfl,λ_=>⟨b,o,rfl,λi y j x hi hj=>⟨U i j,hcell i j y x hi hj,gO i j y x hi hj⟩⟩⟩,hs⟩
theorem qf{E:eP}{w:bB}{K:aE->Prop}{u:a_}{x:CV}(h:cQ E w K u x)(hl:sW x=ak):Sc u x:=by
 cases h with
 |i=>exact⟨rfl,trivial⟩
 |b=>exact⟨rfl,trivial⟩
 |s _ h=>exact⟨rfl,h⟩
 |nl=>simp[sW]at hl
 |l=>simp[sW]at hl
theorem jb{E:eP}{w:bB}{K:aE->Prop}{u:a_}{x:CV}(hl:sW x=ak)(h:Sc u x):cQ E w K u x:=by
 obtain⟨h1,h2⟩:=h;subst h1;cases x with
 |i k n=>exact .i k n
 |b x=>exact .b x
 |s x=>exact .s x h2
 |l=>simp[sW]at hl
theorem vA{E:eP}{w:bB}{G:aE->aE->Pl}{i j:aE}{u:a_}{x:CV}(h:XC E w G i j u x)(hl:sW x=ak):Sc u x:=by
 cases x with
 |l=>simp[sW]at hl
 |i=>exact h
 |b=>exact h
 |s=>exact h
theorem vi{E:eP}{w:bB}{G:aE->aE->Pl}{i j:aE}{u:a_}{x:CV}(hl:sW x=ak)(h:Sc u x):XC E w G i j u x:=by
 cases x with
 |l=>simp[sW]at hl
 |i=>exact h
 |b=>exact h
 |s=>exact h
theorem mZ.list{w:bB}{v:a_}{xs:aU}{sz:aE}{R:aE->aE->a_->CV->Prop}(h:mZ w v xs sz R)(hs:∀y∈xs,y.length=sz):
  ∃(A:aA Addr) (cp:aE) (news:ax a_),v= .slice A xs.length cp/\news.length=xs.length*sz/\(xs=[]\/∃b o,A=ah (ad b o)/\∀j u,news[j]? =ah u->w.cell? (ad b (o+j))=ah u)/\
   ∀(i:aE) (y:ax CV) (j:aE) (x:CV),xs[i]? =ah y->y[j]? =ah x->∃u:a_,news[i*sz+j]? =ah u/\R i j u x:=by
 obtain⟨A,cp,rfl,h2⟩:=h;by_cases hx:xs=[]
 ·subst hx;exact⟨A,cp,[],rfl,by simp, .inl rfl,λi y j x hi hj=>by simp at hi⟩
 ·obtain⟨b,o,h3,h4⟩:=h2 hx;have ex:∀q,q<xs.length*sz->∃u,w.cell? (ad b (o+q))=ah u:=by
   intro q hq;have fm:0<sz:=by rcases xV sz with h|h;(subst h;simp at hq);exact h
   have hi:q/sz<xs.length:=by rw[Ml fm];exact hq
   have hj:q%sz<xs[q/sz].length:=by rw[hs _ (bD hi)];exact EE _ fm
   obtain⟨u,hu,_⟩:=h4 (q/sz) xs[q/sz] (q%sz) (xs[q/sz][q%sz]) (by simp[hi]) (by simp[hj]);refine⟨u, ?_⟩
   rw[<-hu];congr 2;have:=Nat.div_add_mod q sz;rw[KP]at this;omega
  refine⟨A,cp,(cz (xs.length*sz)).map (λq=>(w.cell? (ad b (o+q))).getD undef),rfl,by simp, .inr ⟨b,o,h3,λj u hj=> ?_⟩,λi y j x hi hj=> ?_⟩
  ·rw[bz]at hj;by_cases jt:j<xs.length*sz
   ·obtain⟨u',qB⟩:=ex j jt;simp only[jt,tz,fS,qB,vW,iM]at hj;rw[qB,hj]
   ·rw[jQ (l:=cz (xs.length*sz)) (by simpa using jt)]at hj;cases hj
  ·obtain⟨u,hu,hr⟩:=h4 i y j x hi hj;refine⟨u, ?_,hr⟩
   have hil:=(aT.1 hi).1;have jt:=(aT.1 hj).1;rw[hs y (aP hi)]at jt;have ji:i*sz+j<xs.length*sz:=by have:(i+1)*sz<=xs.length*sz:=cN _ hil;rw[dK]at this;omega
   rw[bz,tz ji,fS];rw[show o+(i*sz+j)=o+i*sz+j by omega,hu];rfl
section
variable {P:cL} {E:eP} {σ:St} {a:Act} {w:bB} {c:eB} {o:eJ} {nm:aE} {e:qU}
theorem vd(b7:Ok E σ w c){nm e:aE}{ex:aW}{xs:aU}(h:σ (cK nm)= .o (.row e ex xs)){lo hi:aE}{v:a_}(hv:tJ (c.P nm) lo hi v):
  ∃te,E.ty e=ah te/\(∀y∈dW xs lo hi,y.map CV.kd=te.ks)/\mZ w v (dW xs lo hi) te.ks.length (λi j u x=>if ex=ai then XC E w (c.G nm) (lo+i) j u x else cQ E w c.K u x):=by obtain⟨⟨ti,h1,h2,h3⟩,h4,_⟩:=b7.obj nm _ h;have:=Ih h4 hv;rw[h2]at this;exact⟨ti,h1,λy hy=>h3 y (Af hy),this⟩
theorem t_(b7:Ok E σ w c){nm e:aE}{ex:aW}{xs:aU}(h:σ (cK nm)= .o (.row e ex xs)):tJ (c.P nm) 0 xs.length (mf (c.P nm)):=by obtain⟨h1,h2,ti,h3,h4,h5⟩:=jY b7 h;rw[<-h1];exact Io (λhn=>(h5 hn).1) (λhn=>by rw[h1,h2 hn];rfl)
theorem Fk(b7:Ok E σ w c){nm e:aE}{xs:aU}(h:σ (cK nm)= .o (.eZ e xs)):tJ (c.P nm) 0 xs.length (mf (c.P nm)):=by
 obtain⟨h1,h2,ti,h3,h4⟩:=lM b7 h;rw[<-h1];refine Io (λhn=> ?_) (λhn=>by rw[h1,h2 hn];rfl);obtain⟨j1,j2,_⟩:=b7.obj nm _ h;rw[fj hn]at j1;by_cases hz:0<xs.length
 ·obtain⟨t3,U,L⟩:=j1.FI hz;rw[j2];exact L.cap
 ·omega
theorem nS(b7:Ok E σ w c){nm e:aE}{xs:aU}(h:σ (cK nm)= .o (.eZ e xs)){lo hi:aE}{v:a_}(hv:tJ (c.P nm) lo hi v):cQ E w c.K v (.l e (dW xs lo hi)):=by obtain⟨h1,h2,ti,h3,h4⟩:=b7.obj nm _ h;exact z5 h3 h1 h2 h4 hv
theorem uT(b7:Ok E σ w c){nm e e2 i j:aE}{xs:aU}{te:TI}(h:σ (cK nm)= .o (.row e ai xs))(ht:E.ty e=ah te)(hk:te.ks[j]? =ah (.l e2))(hi:i<(c.P nm).n):
  ∃ys y t2,xs[i]? =ah y/\y[j]? =ah (.l e2 ys)/\E.ty e2=ah t2/\plain t2.ks=ai/\(c.G nm i j).sz=t2.ks.length/\(∀y∈ys,y.map CV.kd=t2.ks)/\im w (c.G nm i j) ys (λ_ _ u x=>Sc u x)/\tJ (c.G nm i j) 0 ys.length (mf (c.G nm i j)):=by
 obtain⟨⟨tj,Tg,fm,lK⟩,fN,_⟩:=b7.obj nm _ h;obtain rfl:te=tj:=aD (ht.symm.trans Tg);obtain⟨zs,y,hy,To,uu,_,tk,DL,sA,HD,z7,lU⟩:=py (c:=c) fN lK hi hk;refine⟨zs,y,tk,hy,To,DL,sA,HD,z7,lU, ?_⟩
 have:=Io (p:=c.G nm i j) (λhn=>by obtain⟨_,_,q,_⟩:=lU.mem hn;exact q) (λhn=>by rw[lU.n,(lU.nil hn).1];rfl);rwa[lU.n]at this
theorem Lk{E:eP}{w:bB}{K:aE->Prop}{v:a_}{e:aE}{xs:aU}(h:cQ E w K v (.l e xs)):xs.length<=maxLen:=by
 cases h with
 |nl=>exact bm _
 |l _ _ b o cp ti U ht hc hm=>exact cZ hc hm
theorem sH{w:bB}{p:Pl}{xs:aU}{R:aE->aE->a_->CV->Prop}(h:im w p xs R):xs.length<=maxLen:=by
 cases hn:p.nil with
 |true=>rw[(h.nil hn).1];exact bm _
 |false=>obtain⟨vals,_,h2,h3,_⟩:=h.mem hn;rw[<-h.n];exact cZ h2 h3
theorem Gr(xs:aU)(lo hi:aE):(dW xs lo hi).length<=xs.length:=by unfold dW;simp;omega
theorem xL(b7:Ok E σ w c){x:AV}{v:a_}(hx:dP E w c x v){el:aE}{xs:aU}{te:TI}(h:(lk E x).val σ=ah (el,xs))(ht:E.ty el=ah te)(hp:plain te.ks=ai):
  mZ w v xs te.ks.length (λ_ _ u x=>Sc u x)/\(∀y∈xs,y.map CV.kd=te.ks)/\xs.length<=maxLen:=by
 have ofH:∀{xs:aU} {v:a_},cQ E w c.K v (.l el xs)->mZ w v xs te.ks.length (λ_ _ u x=>Sc u x)/\(∀y∈xs,y.map CV.kd=te.ks)/\xs.length<=maxLen:=by intro xs v hh;obtain⟨h1,h2⟩:=CG ht hh;exact⟨h1.imp λi y j x u hi hj hr=>qf hr (ic hp (h2 y (aP hi)) hj),h2,Lk hh⟩
 have ofR:∀{nm:aE} {ex:aW} {xs:aU} {lo hi:aE} {v:a_},σ (cK nm)= .o (.row el ex xs)->tJ (c.P nm) lo hi v->mZ w v (dW xs lo hi) te.ks.length (λ_ _ u x=>Sc u x)/\(∀y∈dW xs lo hi,y.map CV.kd=te.ks)/\(dW xs lo hi).length<=maxLen:=by
  intro nm ex xs lo hi v hg hv;obtain⟨t2,q1,q2,q3⟩:=vd b7 hg hv;obtain rfl:te=t2:=aD (ht.symm.trans q1);refine⟨q3.imp λi y j x u hi hj hr=> ?_,q2,cZ (Gr _ _ _) (sH (b7.obj nm _ hg).at_)⟩
  have hl:=ic hp (q2 y (aP hi)) hj;split at hr
  ·exact vA hr hl
  ·exact qf hr hl
 cases x with
 |sh e' ys=>obtain⟨rfl,rfl⟩:=bN (aD h);exact ofH hx
 |own n=>
  obtain⟨ob,hg,h⟩:=Rd.bind_some h;have hg:=cY hg;have hx:v=mf (c.P n):=hx;subst hx;cases ob with
  |row e' ex ys=>obtain⟨rfl,rfl⟩:=bN (aD h);have:=ofR hg (t_ b7 hg);rwa[pD]at this
  |eZ e' ys=>obtain⟨rfl,rfl⟩:=bN (aD h);have:=ofH (nS b7 hg (Fk b7 hg));rwa[pD]at this
  |_=>simp at h
 |vw n lo hi=>
  obtain⟨ob,hg,h⟩:=Rd.bind_some h;have hg:=cY hg;cases ob with
  |row e' ex ys=>obtain⟨rfl,rfl⟩:=bN (aD h);exact ofR hg hx
  |eZ e' ys=>obtain⟨rfl,rfl⟩:=bN (aD h);exact ofH (nS b7 hg hx)
  |_=>simp at h
 |inn n i j=>
  obtain⟨ob,hg,h⟩:=Rd.bind_some h;have hg:=cY hg;cases ob with
  |row e' ex ys=>
   cases ex with
   |false=>simp at h
   |true=>
   obtain⟨t1,Z7,h⟩:=Rd.bind_some h;have Z7:=dC Z7;split at h
   ·rename_i e2 xE;obtain⟨rfl,rfl⟩:=bN (aD h);obtain⟨⟨jr,hx⟩,_⟩:=hx;obtain⟨zs,y,t2,q1,q2,q3,q4,q5,q6,q7,q8⟩:=uT b7 hg Z7 xE jr;obtain rfl:te=t2:=aD (ht.symm.trans q3);rw[ew q1 q2];have:=Ih q7 q8;rw[pD,q5]at this;subst hx;exact⟨this,q6,sH q7⟩
   ·simp at h
  |_=>simp at h
 |_=>simp[lk]at h
end
end Go.FG

namespace Go.FG
def eV(E:eP)(w:bB)(c:eB)(vals:c_ a_)(xs:ax AV):Prop:=
 vals.size=xs.length/\∀(j:aE) (a:AV),xs[j]? =ah a->∃u:a_,vals[j]? =ah u/\dP E w c a u
theorem o4.cells{E:eP}{w:bB}{c:eB}{agg:aW}{xs:ax AV}{v:a_}(h:o4 E w c agg xs v):eV E w c v.cells xs:=by
 unfold o4 at h;split at h
 ·rename_i a;rw[B9 h.one];refine⟨rfl,λj a' hj=> ?_⟩
  cases j with
  |zero=>simp at hj;subst hj;exact⟨v,rfl,h⟩
  |succ=>simp at hj
 ·obtain⟨vals,rfl,hs,hv⟩:=h;exact⟨hs,hv⟩
 ·exact h.elim
theorem eV.one{E:eP}{w:bB}{c:eB}{xs:ax AV}{vals:c_ a_}(h:eV E w c vals xs):∀u∈vals.toList,u.oneCell'=true:=by
 intro u hu;obtain⟨j,hj⟩:=bV hu;have ji:j<xs.length:=by rw[<-h.1];have:=(aT.1 hj).1;simpa using this
 obtain⟨u',h1,h2⟩:=h.2 j xs[j] (by simp[ji]);rw[cC,h1]at hj;cases hj;exact h2.one
theorem tf{α:Type}{xs ys:ax α}{j:aE}(h:j+ys.length<=xs.length):(iH xs j ys).length=xs.length:=by unfold iH;simp;omega
theorem nY{α:Type}{xs ys:ax α}{j:aE}(h:j+ys.length<=xs.length)(k:aE):(iH xs j ys)[k]? =if j<=k/\k<j+ys.length then ys[k-j]? else xs[k]? :=by
 unfold iH;by_cases h1:k<j
 ·rw[bJ (by omega),cf,dB (by simp;omega),d_,bu h1]
 ·by_cases h2:k<j+ys.length
  ·rw[bu ⟨by omega,h2⟩,cf,cW (by simp;omega),dB (by simp;omega)];congr 1;simp;omega
  ·rw[bJ (by omega),cf,cW (by simp;omega),cW (by simp;omega),dN];congr 1;simp;omega
theorem Ae{α:Type}{xs ys:ax α}{j:aE}{x:α}(h:x∈iH xs j ys):x∈xs\/x∈ys:=by
 unfold iH at h;simp only[aZ]at h;rcases h with (h|h)|h
 ·exact .inl (jR h)
 ·exact .inr h
 ·exact .inl (kj h)
theorem eV.put{E:eP}{w:bB}{c:eB}{xs ys:ax AV}{vals vs:c_ a_}(h:eV E w c vals xs)(h':eV E w c vs ys){j:aE}(hl:j+ys.length<=xs.length):eV E w c (iJ vals j vs.toList) (iH xs j ys):=by
 have hb:j+vs.toList.length<=vals.size:=by rw[h.1,dp,h'.1];exact hl
 refine⟨by rw[jc hb,tf hl];exact h.1,λk a hk=> ?_⟩
 rw[nY hl]at hk;rw[mn hb,dp,h'.1];split at hk
 ·rename_i hc;rw[bu hc,cC];exact h'.2 _ a hk
 ·rename_i hc;rw[bJ hc];exact h.2 k a hk
theorem Of(off:aE):∀(l:ax a_) (k:aE) (cells:c_ a_),off+k+l.length<=cells.size->
  ((l.zipIdx k).foldl (λr p=>r.setIfInBounds (off+p.2) p.1) cells).size=cells.size/\
  ∀q:aE,((l.zipIdx k).foldl (λr p=>r.setIfInBounds (off+p.2) p.1) cells)[q]? =if off+k<=q/\q<off+k+l.length then l[q-(off+k)]? else cells[q]? :=by
 intro l;induction l with
 |nil=>intro k cells _;refine⟨rfl,λq=> ?_⟩;rw[bJ (by simp)];rfl
 |cons v rest ih=>
  intro k cells hl;simp only[cS]at hl;obtain⟨h1,h2⟩:=ih (k+1) (cells.setIfInBounds (off+k) v) (by simp;omega);simp only[List.zipIdx_cons,Bb];refine⟨by rw[h1];simp,λq=> ?_⟩
  rw[h2 q];by_cases hq:q=off+k
  ·subst hq;rw[bJ (by omega),bu ⟨by omega,by simp⟩,mY,bu rfl,bu (by omega)];simp
  ·by_cases hr:off+(k+1)<=q/\q<off+(k+1)+rest.length
   ·rw[bu hr,bu ⟨by omega,by simp;omega⟩];rw[show q-(off+k)=(q-(off+(k+1)))+1 by omega,dy]
   ·rw[bJ hr,bJ (by simp;omega),mY,bJ (λh=>hq h.symm)]
theorem Cg{off:aE}{vs cells:c_ a_}(h:off+vs.size<=cells.size):(vs.zipIdx.foldl (λr (p:a_×aE)=>r.setIfInBounds (off+p.2) p.1) cells)=iJ cells off vs.toList:=by
 rw[<-Array.foldl_toList,Array.toList_zipIdx];obtain⟨h1,h2⟩:=Of off vs.toList 0 cells (by simpa using h);have hb:off+vs.toList.length<=cells.size:=by simpa using h
 apply Array.ext_getElem?;intro q;rw[h2 q,mn hb];simp
theorem Mf{E:eP}{w:bB}{c:eB}{k:Ck}(h:(match k with| .o=>ak|_=>ai)=ai):dP E w c (AW k) (gP k):=by cases k<;>first|rfl|exact⟨rfl,bm _⟩|simp at h
theorem Ai(k:Ck):bw (AW k)=[]:=by cases k<;>rfl
theorem Gu{E:eP}{w:bB}{c:eB}{ks:ax Ck}(h:JW ks=ai):eV E w c (ks.map gP).toArray (ks.map AW):=by
 refine⟨by simp,λj a hj=> ?_⟩
 rw[bz]at hj;cases hk:ks[j]? with
 |none=>rw[hk]at hj;cases hj
 |some k=>rw[hk]at hj;cases hj;exact⟨gP k,by simp[hk],Mf (bj.1 h k (aP hk))⟩
section
variable {P:cL} {E:eP} {σ:St} {a:Act} {w:bB} {c:eB} {o:eJ} {nm:aE} {e:qU}
theorem LQ(hE:dS P E)(di:eG E σ a w c){t:aE}{pl:ax (aE×aE)}{size:aE}(sA:∀f o n,E.fo t f=ah (o,n)->pl[f]? =ah (o,n)/\o+n<=size):∀(ps:ax (aE×c5)) (l:ax (aE×ax AV)),(DZ E t ps).val σ=ah l->
  ∀(vals:c_ a_) (xs:ax AV),eV E w c vals xs->xs.length=size->(∀a∈xs,iz σ a)->
  ∃jv,n6 (λi=>pl[i]?) vals (ps.map λ(i,x)=>(i,a.eval x))=ah jv/\eV E w c jv (Ju xs l)/\(∀a∈Ju xs l,iz σ a):=by
 intro ps;induction ps with
 |nil=>intro l h vals xs hv _ hk;obtain rfl:=aD h;exact⟨vals,rfl,hv,hk⟩
 |cons p r ih=>
  obtain⟨f,x⟩:=p;intro l h vals xs hv fm hk;obtain⟨v,h1,h⟩:=Rd.bind_some h;obtain⟨Ta,hkv⟩:=kX di h1;cases v with
  |v g ys=>
   replace h:(match E.fo t f with|some (o,n)=>bif bh ys.length n then(DZ E t r).bind λl=> .ret ((o,ys)::l)else .fail|none=> .fail:Rd (ax (aE×ax AV))).val σ=ah l:=h;cases hf:E.fo t f with
   |none=>rw[hf]at h;simp at h
   |some q=>
    obtain⟨off,n⟩:=q;rw[hf]at h;obtain⟨hn,h⟩:=cj h;have hn:=aQ hn;obtain⟨l',hl',h⟩:=Rd.bind_some h;obtain rfl:=aD h;obtain⟨Lm,hp2⟩:=sA f off n hf;have hc:=o4.cells Ta;have mK:off+ys.length<=xs.length:=by omega
    obtain⟨jv,q1,q2,q3⟩:=ih l' hl' (iJ vals off (a.eval x).cells.toList) (iH xs off ys) (hv.put hc mK) (by rw[tf mK];exact fm)
     (λb hb=>by
      rcases Ae hb with hb|hb
      ·exact hk b hb
      ·exact λn hn=>hkv n (bA.2 ⟨b,hb,hn⟩))
    refine⟨jv, ?_,q2,q3⟩
    simp only[eK,n6,Lm];have c1:(a.eval x).cells.size=n:=by rw[hc.1,hn]
    have c2:¬(off+(a.eval x).cells.size>vals.size):=by rw[hc.1,hv.1];omega
    rw[bJ (by simp[c1];rw[c1]at c2;omega)];have:=Cg (off:=off) (vs:=(a.eval x).cells) (cells:=vals) (by omega);rw[<-q1];exact kl (λz=>n6 (λi=>pl[i]?) z _) this
  |jh=>simp at h
  |un=>simp at h
theorem PC(hE:dS P E)(b7:Ok E σ w c)(di:eG E σ a w c)(hd:∀d,o.dst=ah d->d<a.tmps.size){t:aE}{ps:c_ (aE×c5)}(ho:o.op= .build t ps)(h:(kM E nm o).val σ=ah e):fT P E σ a w c o e.ws:=by simp only[kM,ho]at h;obtain⟨ti,h1,h⟩:=Rd.bind_some h;obtain⟨hb,h⟩:=cj h;obtain⟨l,h2,h⟩:=Rd.bind_some h;have ht:=dC h1;simp only[aF]at hb;obtain⟨yv,sw⟩:=hb;obtain⟨inf,hi,fm,_,_,hz⟩:=hE.info t ti ht;obtain⟨z,HF,Bz,_⟩:=hz yv;obtain⟨d,V7,ha,_⟩:=hE.desc t ti ht;obtain⟨fs,rfl,Rz⟩:=ha sw;obtain⟨pl,Lm,hp2⟩:=hE.pl t ti ht sw fs V7;obtain⟨vals,q1,q2,q3⟩:=LQ (size:=ti.ks.length) hE di (λf o n hf=>⟨hp2 f o n hf,(Rz f o n hf).choose_spec.2.2.2.2⟩) ps.toList l h2 _ _ (Gu (w:=w) (c:=c) (E:=E) yv) (by simp) (λb hb=>by obtain⟨k,_,rfl⟩:=cO.1 hb;exact sB (Ai k));refine e_ b7 di hd h (v:= .agg vals) ⟨vals,rfl,q2.1,q2.2⟩ (λn hn=>by obtain⟨x,hx,hn⟩:=bA.1 hn;exact q3 x hx n hn) ?_;unfold execOp;rw[ho];refine ia (run_build w t _ vals ?_);simp only[Program.built,hi,V7,HF,Lm,Bz,gg,xQ];exact q1
theorem PE(hE:dS P E)(b7:Ok E σ w c)(di:eG E σ a w c)(hd:∀d,o.dst=ah d->d<a.tmps.size){t f:aE}{x:c5}(ho:o.op= .field t x f)(h:(kM E nm o).val σ=ah e):fT P E σ a w c o e.ws:=by
 simp only[kM,ho]at h;obtain⟨v,h1,h⟩:=Rd.bind_some h;obtain⟨hv,hk⟩:=kX di h1;cases v with
 |v g xs=>
  cases g with
  |true=>
   cases hf:E.fo t f with
   |none=>rw[hf]at h;simp at h
   |some r=>
    obtain⟨j,n⟩:=r;rw[hf]at h;obtain⟨hb,h⟩:=cj h;rw[aF]at hb;cases hx:xs.drop j with
    |nil=>rw[hx]at h;simp at h
    |cons y ys=>
     rw[hx]at h;have hj:xs[j]? =ah y:=by have:=dN (xs:=xs) (i:=j) (j:=0);rw[hx]at this;simpa using this.symm
     obtain⟨vals,q1,q2,q3⟩:∃vals:c_ a_,a.eval x= .agg vals/\vals.size=xs.length/\∀(j:aE) (b:AV),xs[j]? =ah b->∃u:a_,vals[j]? =ah u/\dP E w c b u:=hv;obtain⟨u,hu,Rw⟩:=q3 j y hj;obtain⟨ti,ht,sw⟩:=hE.fo t f j n hf;obtain⟨d,V7,ha,_⟩:=hE.desc t ti ht;obtain⟨fs,rfl,Rz⟩:=ha sw;obtain⟨fd,g1,g2,_⟩:=Rz f j n hf;have hAg:=hE.fl t f hb.1 fs fd V7 g1 w;refine e_ b7 di hd h (s:= .v ak [y]) (v:=u) Rw (λm hm=>hk m (bA.2 ⟨y,aP hj,by simpa [ch]using hm⟩)) ?_;unfold execOp;rw[ho];refine ia ?_;simp only[Instr.field,b8,run_underlying V7,bn,g1,q1,asAgg,cB,part,hAg,cU,if_false,g2,hu]
  |false=>simp at h
 |jh=>simp at h
 |un=>simp at h
theorem PA(hE:dS P E)(b7:Ok E σ w c)(di:eG E σ a w c)(hd:∀d,o.dst=ah d->d<a.tmps.size){t:aE}(ho:o.op= .alloc t)(h:(kM E nm o).val σ=ah e):fT P E σ a w c o e.ws:=by
 simp only[kM,ho]at h;obtain⟨ti,h1,h⟩:=Rd.bind_some h;obtain⟨hb,h⟩:=cj h;obtain⟨u,h2,h⟩:=Rd.bind_some h;obtain⟨hf,ji⟩:=jF h2;obtain rfl:=aD h;have hr:=L0 (P:=P) w hE (dC h1) hb;refine zU b7 di hd (p:=⟨ak,w.heap.size,0,0,0,0⟩) (g:=λ_ _=>⟨ak,0,0,0,0,0⟩) hf ji (λc' hP _ _ _=> ?_) (λc' hP _ b hb=> ?_) (λxs hx b hb=> ?_) (λc' hP _=> ?_) (λn hn=> .inl (by simpa [ch,bw]using hn)) (λb hb=>heap_alloc_old w _ b hb) (by simp) rfl rfl rfl (v:= .pointer (ah (ad w.heap.size 0))) (w':=w.alloc (.cells (ti.ks.map gP).toArray t)) ?_
 ·obtain⟨z1,z2⟩:=Gu (E:=E) (w:=w.alloc (.cells (ti.ks.map gP).toArray t)) (c:=c') hb;exact⟨_,by rw[hP];exact oX.alloc w _ t,z1,z2⟩
 ·have:b=(c'.P nm).blk:=hb;rw[this,hP];exact cm _
 ·cases hx;obtain⟨k,_,rfl⟩:=cO.1 hb;exact sB (Ai k)
 ·show _=_;rw[hP]
 ·unfold execOp;rw[ho];exact ia hr
theorem aaV(b7:Ok E σ w c)(di:eG E σ a w c)(hd:∀d,o.dst=ah d->d<a.tmps.size){t:aE}{x:c5}(ho:o.op= .box t x)(h:(kM E nm o).val σ=ah e):fT P E σ a w c o e.ws:=by
 simp only[kM,ho]at h;obtain⟨v,h1,h⟩:=Rd.bind_some h;obtain⟨hv,hk⟩:=kX di h1;cases v with
 |v g xs=>
  obtain⟨u,h2,h⟩:=Rd.bind_some h;obtain⟨hf,ji⟩:=jF h2;obtain rfl:=aD h;have hr:=Qf (P:=P) w t (a.eval x);have kx:∀b∈xs,iz σ b:=λb hb n hn=>hk n (bA.2 ⟨b,hb,hn⟩);have nT:=o4.cells hv;refine zU b7 di hd (p:=⟨ak,w.heap.size,0,0,0,0⟩) (g:=λ_ _=>⟨ak,0,0,0,0,0⟩) hf ji (λc' hP _ hK hA=> ?_) (λc' hP _ b hb=> ?_) (λys hx b hb=> ?_) (λc' hP _=> ?_) (λn hn=> .inl (by simpa [ch,bw]using hn)) (λb hb=>heap_alloc_old w _ b hb) (by simp) rfl rfl rfl (v:= .pointer (ah (ad w.heap.size 0))) (w':=w.alloc (.cells (a.eval x).cells t)) ?_
  ·refine⟨_,by rw[hP];exact oX.alloc w _ t,nT.1,λj y hj=> ?_⟩
   obtain⟨u,hu,hy⟩:=nT.2 j y hj;exact⟨u,hu,hy.frame (λb hb=>heap_alloc_old w _ b (b7.lt b hb)) hK (λn hn=>hA n (.inl (kx y (aP hj) n hn)))⟩
  ·have:b=(c'.P nm).blk:=hb;rw[this,hP];exact cm _
  ·cases hx;exact kx b hb
  ·show _=_;rw[hP]
  ·unfold execOp;rw[ho];exact ia hr
 |jh=>simp at h
 |un=>simp at h
end
end Go.FG

namespace Go.FG
def HN(E:eP)(ks:ax Ck)(_i j:aE):Pl:=
 ⟨ai,0,0,0,0,match ks[j]? with|some (.l e)=>(match E.ty e with|some t=>t.ks.length|none=>0)|_=>0⟩
theorem tQ{p:Pl}{G:aE->aE->Pl}{xs:aU}(h:∀i j,(G i j).nil=ai):CW p G xs:=
 ⟨λi j _ hn=>(by rw[h]at hn;cases hn),λi j i' j' _ _ hn=>(by rw[h]at hn;cases hn)⟩
theorem KI{E:eP}{w:bB}{ks:ax Ck}(hf:flat E ks=ai)(hn:JW ks=ai){i j:aE}{k:Ck}(hk:ks[j]? =ah k):XC E w (HN E ks) i j (gP k) (wV k):=by
 have h1:=bj.1 hf k (aP hk);have h2:=bj.1 hn k (aP hk);cases k with
 |l e=>
  replace h1:(match E.ty e with|some ti=>plain ti.ks|none=>ak)=true:=h1;cases ht:E.ty e with
  |none=>rw[ht]at h1;cases h1
  |some t=>
   rw[ht]at h1;refine⟨rfl,t,ht,h1, ?_,λy hy=>(by cases hy),⟨rfl,λ_=>⟨rfl,rfl⟩,λh=>by cases h⟩⟩
   show(match ks[j]? with|some (.l e)=>(match E.ty e with|some t=>t.ks.length|none=>0)|_=>0)=_;rw[hk];simp only[ht]
 |o=>cases h2
 |s=>exact⟨rfl,bm _⟩
 |_=>exact⟨rfl,trivial⟩
theorem Iv{E:eP}{w:bB}{K:aE->Prop}{k:Ck}(h2:(match k with| .o=>ak|_=>ai)=ai):cQ E w K (gP k) (wV k):=by
 cases k with
 |o=>cases h2
 |i k=>exact .i _ _
 |b=>exact .b _
 |s=>exact .s _ (bm _)
 |l e=>exact .nl _ _ _
theorem Vm{k:Ck}(h2:(match k with| .o=>ak|_=>ai)=ai):(wV k).kd=k:=by cases k<;>first|rfl|cases h2
theorem vB{ks:ax Ck}(hn:JW ks=ai)(n:aE):∀y∈aN ks n,y.map CV.kd=ks:=by
 intro y hy;rw[(List.mem_replicate.1 hy).2,kT];have:∀k∈ks,(CV.kd∘wV) k=k:=λk hk=>Vm (bj.1 hn k hk);conv=>rhs;rw[<-List.map_id ks]
 exact Mi this
theorem sK{ks:ax Ck}{n i j:aE}{y:ax CV}{x:CV}(hi:(aN ks n)[i]? =ah y)(hj:y[j]? =ah x):i<n/\∃k,ks[j]? =ah k/\x=wV k:=by
 unfold aN at hi;have ji:=(aT.1 hi).1;rw[List.length_replicate]at ji;rw[List.getElem?_replicate,bu ji]at hi;cases hi;rw[bz]at hj;cases hk:ks[j]? with
 |none=>rw[hk]at hj;cases hj
 |some k=>rw[hk]at hj;cases hj;exact⟨ji,k,rfl,rfl⟩
theorem kD{ks:ax Ck}{n i j:aE}{k:Ck}(hi:i<n)(hk:ks[j]? =ah k):(madeCells (ks.map gP).toArray (n*ks.length))[i*ks.length+j]? =ah (gP k):=by
 have hj:=(aT.1 hk).1;have ji:i*ks.length+j<n*ks.length:=by have:(i+1)*ks.length<=n*ks.length:=cN _ hi;rw[dK]at this;omega
 have hm:(i*ks.length+j)%ks.length=j:=by rw[KP,Nat.mul_add_mod];exact Nat.mod_eq_of_lt hj
 unfold madeCells;rw[KJ,Array.getElem?_range,bu ji,fS];congr 1;simp only[Mj,bP,hm];rw[getElem!_def,gg,bz,hk];rfl
theorem wF{P:cL}{E:eP}{σ:St}(hE:dS P E){t:aE}{k:l_}(h:(ov E t).val σ=ah (.i k)):P.underlying t=ah (.int k):=by obtain⟨ti,h1,h2,h3⟩:=qh h;obtain⟨d,hd,_,hn⟩:=hE.desc t ti h1;rcases hn h2 with ⟨k,h,rfl⟩|⟨h,_⟩|⟨h,_⟩|⟨e',h,_⟩|⟨h,_⟩<;>rw[h3]at h<;>simp_all
theorem Jl{P:cL}{E:eP}(hE:dS P E){e:aE}{te:TI}(ht:E.ty e=ah te)(h:(u8s te.ks&& !te.agg)=ai):te.ks=[.i .u8]/\P.underlying e=ah (.int .u8):=by
 simp only[aF,dt]at h;have hk:te.ks=[.i .u8]:=by
  have:=h.1;unfold u8s at this;split at this
  ·assumption
  ·cases this
 obtain⟨d,hd,_,hn⟩:=hE.desc e te ht;refine⟨hk, ?_⟩
 rcases hn h.2 with ⟨k,h,rfl⟩|⟨h,_⟩|⟨h,_⟩|⟨e',h,_⟩|⟨h,_⟩<;>rw[hk]at h<;>simp_all
section
variable {P:cL} {E:eP} {σ:St} {a:Act} {w:bB} {c:eB} {o:eJ} {nm:aE} {e:qU}
theorem L4(hE:dS P E){src dst el:aE}{te:TI}(hs:P.underlying src=ah (.slice el))(hd:P.underlying dst=ah .string)(he:P.underlying el=ah (.int .u8))(hk:te.ks=[.i .u8]){v:a_}{xs:aU}
  (h:mZ w v xs te.ks.length (λ_ _ u x=>Sc u x)) (lK:∀y∈xs,y.map CV.kd=te.ks):(convert src dst v).run P w= .ok (.string (bytesOf xs)) w:=by
 obtain⟨A,cp,rfl,h2⟩:=h;by_cases hx:xs=[]
 ·subst hx;rw[iT];have e0:bytesOf []=Ei:=rfl;rw[e0];cases A with
  |none=>exact run_convert_bytes_nil w src el hs he 0 cp dst hd
  |some ad'=>rw[run_convert_bytes_string w src dst el _ 0 cp hs he hd];exact run_bytesToString w ad' 0 cp [] rfl
 ·obtain⟨b,oo,rfl,h3⟩:=h2 hx;have:=run_convert_bytes_arg w src el hs he b oo xs.length cp (xs.map λy=>bU (y.getD 0 (.b ak))) (by simp) (λi hi=>by
   have hy:=lK xs[i] (bD hi);rw[hk]at hy;cases hq:xs[i]with
   |nil=>rw[hq]at hy;cases hy
   |cons x r=>
    rw[hq]at hy;simp only[eK,VO,List.map_eq_nil_iff]at hy;obtain⟨hx1,rfl⟩:=hy;obtain⟨u,hu,hr⟩:=h3 i xs[i] 0 x (by simp[hi]) (by rw[hq];rfl);rw[hk]at hu;simp only[cS,iT,bO,Nat.mul_one,uf]at hu;rw[hu,hr.1];cases x with
    |i k n=>cases hx1;simp[L8,jm,hi,hq,bU]
    |_=>cases hx1) dst hd
  rw[this];unfold strOfNums bytesOf;rw[kT];rfl
theorem gX(xs:aU):(bytesOf xs).size=xs.length:=by unfold bytesOf;simp[fH]
theorem kL(s:aq):(pw s).length=s.size:=by unfold pw;simp
theorem D6{s:aq}{i j:aE}{y:ax CV}{x:CV}(hi:(pw s)[i]? =ah y)(hj:y[j]? =ah x):j=0/\∃b,s.data[i]? =ah b/\x= .i .u8 (b.toNat:az):=by
 unfold pw at hi;rw[bz,cC]at hi;cases hb:s.data[i]? with
 |none=>rw[hb]at hi;cases hi
 |some b=>
  rw[hb]at hi;cases hi;cases j with
  |zero=>cases hj;exact⟨rfl,b,rfl,rfl⟩
  |succ j=>simp at hj
theorem F9(s:aq):∀y∈pw s,y.map CV.kd=[.i .u8]:=by intro y hy;obtain⟨b,_,rfl⟩:=cO.1 hy;rfl
theorem HX(hE:dS P E)(b7:Ok E σ w c)(di:eG E σ a w c)(hd:∀d,o.dst=ah d->d<a.tmps.size){src dst:aE}{x:c5}(ho:o.op= .convert src dst x)(h:(kM E nm o).val σ=ah e)(hc:e.cond=ai):fT P E σ a w c o e.ws:=by
 simp only[kM,ho]at h;obtain⟨ks,h1,h⟩:=Rd.bind_some h;obtain⟨kd,h2,h⟩:=Rd.bind_some h;obtain⟨v,h3,h⟩:=Rd.bind_some h;obtain⟨ev,kv⟩:=ij di h3;have exec:∀{u r:a_} {w':bB},a.eval x=u->(convert src dst u).run P w= .ok r w'->(execOp a.eval o).run P w= .ok (.value r) w':=by intro u r w' hu hr;unfold execOp;rw[ho];exact ia (by rw[hu];exact hr)
 cases kd with
 |i k=>
  cases ks with
  |i k0=>
   cases v with
   |i k1 n=>refine e_ b7 di hd h (v:= .int k (k.wrap n)) rfl (λn hn=>by simp[ch,bw]at hn) (exec ev ?_);simp[convert,run_underlying (wF hE h1),run_underlying (wF hE h2),Conv.intToInt]
   |_=>simp at h
  |_=>simp at h
 |s=>
  have zW:=jX hE h2;cases ks with
  |s=>
   cases v with
   |s s=>refine e_ b7 di hd h (v:= .string s) ⟨rfl,ev.2⟩ (λn hn=>by simp[ch,bw]at hn) (exec ev.1 ?_);simp[convert,run_underlying (jX hE h1),run_underlying zW]
   |_=>simp at h
  |l el=>
   have Lp:=jH hE h1;have gen:(∀e,v=e->((lk E e).bind λ(e,xs)=>(qs E e).bind λte=>bif bh e el&&u8s te.ks&& !te.agg then Il o (decide (xs.length<=4611686018427387904)) (.s (bytesOf xs))else .fail).val σ=ah ‹qU›)->fT P E σ a w c o (‹qU›).ws:=by
    intro h;obtain⟨⟨e1,xs⟩,q1,h⟩:=Rd.bind_some (h v rfl);obtain⟨te,q2,h⟩:=Rd.bind_some h;have q2:=dC q2;obtain⟨q3,h9⟩:=cj h;rw[Bool.and_assoc,aF]at q3;have:=aQ q3.1;subst this;obtain⟨q4,q5⟩:=Jl hE q2 q3.2;have hp:plain te.ks=true:=by rw[q4];rfl
    obtain⟨r1,r2,r3⟩:=xL b7 ev q1 q2 hp;exact CH b7 di hd h9 hc (v:= .string (bytesOf xs)) (λhb=>⟨rfl,by unfold HU;rw[gX];exact cg hb⟩) (sB rfl) (λ_=>exec rfl (L4 hE Lp zW q5 q4 r1 r2))
   cases v with
   |nl=>obtain⟨te,q1,h⟩:=Rd.bind_some h;obtain⟨q3,h⟩:=cj h;obtain⟨q4,q5⟩:=Jl hE (dC q1) q3;exact e_ b7 di hd h (v:= .string Ei) ⟨rfl,bm _⟩ (λn hn=>by simp[ch,bw]at hn) (exec ev (run_convert_bytes_nil w src el Lp q5 0 0 dst zW))
   |_=>exact gen (λ_ hv=>by cases hv;exact h)
  |_=>simp at h
 |_=>simp at h
theorem DW(hE:dS P E)(b7:Ok E σ w c)(di:eG E σ a w c)(hd:∀d,o.dst=ah d->d<a.tmps.size){t:aE}{x y:c5}(ho:o.op= .makeSlice t x y)(h:(kM E nm o).val σ=ah e)(hc:e.cond=ai):fT P E σ a w c o e.ws:=by
 simp only[kM,ho]at h;obtain⟨⟨k1,n⟩,h1,h⟩:=Rd.bind_some h;obtain⟨⟨k2,m⟩,h2,h⟩:=Rd.bind_some h;obtain⟨ti,h3,h⟩:=Rd.bind_some h;have ex:=ox di h1;have ey:=ox di h2;have h3:=dC h3;split at h
 ·rename_i el sw Bw;obtain⟨te,h4,h⟩:=Rd.bind_some h;have h4:=dC h4;obtain⟨h5,h⟩:=cj h;obtain⟨u,h6,h⟩:=Rd.bind_some h;obtain⟨hf,ji⟩:=jF h6;obtain rfl:=aD h;generalize (bif plain te.ks then nm else nm+999)=nm at hf ji hc⊢;simp only[aF,ba,cy]at hc h5;obtain⟨⟨c0,rfl⟩,c1,c2⟩:=hc;obtain⟨yv,Mt⟩:=h5;have hu:=nP hE h3 sw Bw;obtain⟨inf,hi,fm,hby,mh,hz⟩:=hE.info el te h4;obtain⟨z,HF,Bz,_⟩:=hz yv;have hr:=run_make (P:=P) w t el inf z hu hi HF k1 k2 n n c0 (Vt _) (by
   have e1:((n.toNat*te.bytes:aE):az)<=140737488355328:=(by generalize n.toNat*te.bytes=q at c1⊢;omega)
   rw[hby,Int.mul_comm];rw[R4,Int.toNat_of_nonneg c0]at e1;omega) (by omega)
  rw[Bz,fm]at hr;refine zU b7 di hd (p:=⟨ak,w.heap.size,0,n.toNat,n.toNat,te.ks.length⟩) (g:=HN E te.ks) hf ji (λc' hP hG _ _=> ?_) (λc' hP hG b hb=> ?_) (λxs hx b hb=>by cases hx) (λc' hP _=> ?_) (λn hn=> .inl (by simpa [ch,bw]using hn)) (λb hb=>heap_alloc_old w _ b hb) (by simp) rfl rfl rfl (v:= .slice (ah ⟨w.heap.size,0,aj⟩) n.toNat n.toNat) (w':=w.alloc (.cells (madeCells (te.ks.map gP).toArray (n.toNat*te.ks.length)) el)) ?_
  ·refine⟨⟨te,h4,by rw[hP],vB yv _⟩, ?_,λ_=>tQ (λi j=>(by rw[hG];try rfl))⟩
   rw[hP,hG];refine⟨by simp[aN],λhn=>(by cases hn),λ_=>⟨_,oX.alloc w _ el,cm _,(by show n.toNat<=2^63-1;omega),by rw[size_madeCells];simp,λi y j x hi hj=> ?_⟩⟩
   obtain⟨gO,k,hk,rfl⟩:=sK hi hj;refine⟨gP k, ?_,by rw[bu rfl];exact KI Mt yv hk⟩
   rw[bO];exact kD gO hk
  ·rcases hb with ⟨_,rfl⟩|⟨_,i,j,_,hn,_⟩
   ·rw[hP];exact cm _
   ·rw[hG]at hn;cases hn
  ·show _=mf _;rw[hP];rfl
  ·unfold execOp;rw[ho];exact ia (by rw[ex,ey];exact hr)
 ·simp at h
end
end Go.FG

namespace Go.FG
theorem iY{xs:aU}{i j:aE}{cs:ax CV}:(eA xs i j cs).length=xs.length:=by unfold eA;simp
theorem vj{xs:aU}{i j:aE}{cs y:ax CV}(hy:xs[i]? =ah y)(i':aE):(eA xs i j cs)[i']? =if i'=i then ah (iH y j cs)else xs[i']? :=by
 have ji:=(aT.1 hy).1;have hd:xs.getD i []=y:=by rw[cD,hy];rfl
 unfold eA;rw[Mh,hd];by_cases h:i'=i
 ·subst h;simp[ji]
 ·rw[bJ h,bJ (λe=>h e.symm)]
theorem oX.uniq{w:bB}{b:aE}{v1 v2:c_ a_}(h1:oX w b v1)(h2:oX w b v2):v1=v2:=by obtain⟨t,fr,h1,_⟩:=h1;obtain⟨t',fr',h2,_⟩:=h2;rw[h1]at h2;cases h2;rfl
theorem im.pos{w:bB}{p:Pl}{xs:aU}{R:aE->aE->a_->CV->Prop}(h:im w p xs R){i:aE}(hi:i<p.n):p.nil=ak/\∃vals,oX w p.blk vals:=by
 have iu:p.nil=false:=by
  cases hn:p.nil with
  |false=>rfl
  |true=>have:=(h.nil hn).1;subst this;have:=h.n;simp at this;omega
 obtain⟨vals,hb,_⟩:=h.mem iu;exact⟨iu,vals,hb⟩
theorem im.afu{w:bB}{p:Pl}{xs:aU}{R R':aE->aE->a_->CV->Prop}(h:im w p xs R){vals:c_ a_}(hbv:oX w p.blk vals)(hs:∀y∈xs,y.length=p.sz){i j:aE}{cs:ax CV}{vs:ax a_}(hi:i<p.n)(hj:j+cs.length<=p.sz)(hl:vs.length=cs.length)
  (zZ:∀(q:aE) (x:CV),cs[q]? =ah x->∃u:a_,vs[q]? =ah u/\R' i (j+q) u x)
  (hold:∀(i1:aE) (y:ax CV) (j1:aE) (x:CV) (u:a_),xs[i1]? =ah y->y[j1]? =ah x->(i1≠i\/¬(j<=j1/\j1<j+cs.length))->R i1 j1 u x->R' i1 j1 u x):
  p.off+i*p.sz+j+vs.length<=vals.size/\im (w.setRow p.blk (iJ vals (p.off+i*p.sz+j) vs)) p (eA xs i j cs) R':=by
 have iu:p.nil=false:=by
  cases hn:p.nil with
  |false=>rfl
  |true=>have:=(h.nil hn).1;subst this;have:=h.n;simp at this;omega
 obtain⟨jv,hb,Wg,hcm,mK,hc⟩:=h.mem iu;obtain rfl:=hbv.uniq hb;have km:i<xs.length:=by rw[<-h.n];exact hi
 have hy:xs[i]? =ah xs[i]:=by simp[km]
 have GD:=hs xs[i] (bD km);have h1:(i+1)*p.sz<=p.cap*p.sz:=cN _ (by omega);rw[dK]at h1;have s_:p.off+i*p.sz+j+vs.length<=vals.size:=by omega
 refine⟨s_,⟨by rw[iY];exact h.n,λhn=>(by rw[iu]at hn;cases hn),λ_=> ?_⟩⟩
 refine⟨_,hb.setRow (jc s_),Wg,hcm,by rw[jc s_];exact mK,λi' y j' x jr Lh=> ?_⟩
 rw[vj hy]at jr;rw[mn s_];by_cases Fs:i'=i
 ·subst Fs;rw[bu rfl]at jr;cases jr;rw[nY (by omega)]at Lh;by_cases hq:j<=j'/\j'<j+cs.length
  ·rw[bu hq]at Lh;rw[bu (by omega)];obtain⟨u,hu,hr⟩:=zZ (j'-j) x Lh;refine⟨u, ?_, ?_⟩
   ·rw[<-hu];congr 1;omega
   ·rwa[show j+(j'-j)=j' by omega]at hr
  ·rw[bJ hq]at Lh;obtain⟨u,hu,hr⟩:=hc _ _ _ _ hy Lh;exact⟨u,by rw[bJ (by omega)];exact hu,hold _ _ _ _ _ hy Lh (.inr hq) hr⟩
 ·rw[bJ Fs]at jr;obtain⟨u,hu,hr⟩:=hc _ _ _ _ jr Lh;refine⟨u, ?_,hold _ _ _ _ _ jr Lh (.inl Fs) hr⟩
  have RA:j'<p.sz:=by rw[<-hs y (aP jr)];exact(aT.1 Lh).1
  rw[bJ ?_];exact hu;rcases Mm Fs with ji|hgt
  ·have:(i'+1)*p.sz<=i*p.sz:=cN _ ji;rw[dK]at this;omega
  ·have:(i+1)*p.sz<=i'*p.sz:=cN _ hgt;rw[dK]at this;omega
theorem im.put{w:bB}{p:Pl}{xs:aU}{R R':aE->aE->a_->CV->Prop}(h:im w p xs R){vals:c_ a_}(hbv:oX w p.blk vals)(hs:∀y∈xs,y.length=p.sz){i j:aE}{cs:ax CV}{vs:ax a_}(hi:i<p.n)(hj:j+cs.length<=p.sz)(hl:vs.length=cs.length)
  (zZ:∀(q:aE) (x:CV),cs[q]? =ah x->∃u:a_,vs[q]? =ah u/\R' i (j+q) u x)
  (hold:∀(i:aE) (y:ax CV) (j:aE) (x:CV) (u:a_),xs[i]? =ah y->y[j]? =ah x->R i j u x->R' i j u x):
  p.off+i*p.sz+j+vs.length<=vals.size/\im (w.setRow p.blk (iJ vals (p.off+i*p.sz+j) vs)) p (eA xs i j cs) R':=
 h.afu hbv hs hi hj hl zZ (λi1 y j1 x u h1 h2 _ hr=>hold i1 y j1 x u h1 h2 hr)
theorem jW{xs:aU}{ks:ax Ck}(h:∀y∈xs,y.map CV.kd=ks)(i j:aE):fD xs i j↔i<xs.length/\∃e,ks[j]? =ah (.l e):=by
 constructor
 ·rintro ⟨y,x,hy,hx,hl⟩;refine⟨(aT.1 hy).1, ?_⟩
  cases x with
  |l e ys=>exact⟨e,by rw[<-h y (aP hy),bz,hx];rfl⟩
  |i=>simp[sW]at hl
  |b=>simp[sW]at hl
  |s=>simp[sW]at hl
 ·rintro ⟨hi,e,hk⟩;have hy:xs[i]? =ah xs[i]:=by simp[hi]
  have h1:=h xs[i] (bD hi);rw[<-h1,bz]at hk;cases hx:xs[i][j]? with
  |none=>rw[hx]at hk;cases hk
  |some x=>
   rw[hx]at hk;cases x with
   |l e2 ys=>exact⟨_,_,hy,hx,rfl⟩
   |i=>cases hk
   |b=>cases hk
   |s=>cases hk
theorem Lx{y cs:ax CV}{ks:ax Ck}{j:aE}(hy:y.map CV.kd=ks)(hc:cs.map CV.kd=(ks.drop j).take cs.length)(hj:j+cs.length<=ks.length):(iH y j cs).map CV.kd=ks:=by
 have hl:y.length=ks.length:=by rw[<-hy];simp
 apply Ri;intro q;rw[bz,nY (by omega)];split
 ·rename_i h;have:(cs.map CV.kd)[q-j]? =((ks.drop j).take cs.length)[q-j]? :=by rw[hc]
  rw[bz]at this;rw[this,d_,bu (by omega),dN];congr 1;omega
 ·rw[<-hy,bz]
theorem sI{xs:aU}{ks:ax Ck}{i j:aE}{cs:ax CV}(h:∀y∈xs,y.map CV.kd=ks)(hc:cs.map CV.kd=(ks.drop j).take cs.length)(hj:j+cs.length<=ks.length)(hi:i<xs.length):∀y∈eA xs i j cs,y.map CV.kd=ks:=by
 intro y hy;obtain⟨q,hq⟩:=bV hy;rw[vj (y:=xs[i]) (by simp[hi])]at hq;split at hq
 ·cases hq;exact Lx (h _ (bD hi)) hc hj
 ·exact h y (aP hq)
theorem mN{E:eP}{w:bB}{K:aE->Prop}{p:Pl}{xs:aU}{el:aE}{te:TI}(ht:E.ty el=ah te)(hs:p.sz=te.ks.length)(lK:∀y∈xs,y.map CV.kd=te.ks)
  (h:im w p xs (λ_ _ u x=>cQ E w K u x)) (hK:p.nil=ak->K p.blk):cQ E w K (mf p) (.l el xs):=by
 cases hq:p.nil with
 |true=>rw[nu hq,(h.nil hq).1];exact .nl _ _ _
 |false=>
  rw[fj hq,h.n];obtain⟨vals,hb,Wg,hmx,_,hc⟩:=h.mem hq;have Fo:=λi y j x (h1:xs[i]? =ah y) (h2:y[j]? =ah x)=>hc i y j x h1 h2;refine .l el xs p.blk p.off p.cap te (λi j=>(vals[p.off+i*p.sz+j]?).getD undef) ht (by rw[<-h.n];exact Wg) hmx (hK hq) lK (λi j y x h1 h2=> ?_) (λi j y x h1 h2=> ?_)
  ·obtain⟨u,hu,_⟩:=Fo i y j x h1 h2;rw[hb.cell,<-hs,hu];rfl
  ·obtain⟨u,hu,hr⟩:=Fo i y j x h1 h2;simp only[hu,vW];exact hr
theorem rZ{E:eP}{w:bB}{K:aE->Prop}{G:aE->aE->Pl}{i j:aE}{u:a_}{x:CV}(h:XC E w G i j u x)(hK:sW x=ai->(G i j).nil=ak->K (G i j).blk):cQ E w K u x:=by
 cases x with
 |l e ys=>obtain⟨rfl,t,ht,hp,hs,lK,fN⟩:=h;exact mN ht hs lK (fN.frame (λ_=>rfl) (λi j y x u hi hj hr=>jb (ic hp (lK y (aP hi)) hj) hr)) (hK rfl)
 |i=>exact jb rfl h
 |b=>exact jb rfl h
 |s=>exact jb rfl h
section
variable {P:cL} {E:eP} {σ:St} {a:Act} {w:bB} {c:eB} {o:eJ} {nm:aE} {e:qU}
theorem wB{ex:aW}{k:Ck}{x:AV}{cv:CV}{ws:ax (aE×dY)}{u:a_}(hp:plain [k]=ai)(h:(E6 ex k x).val σ=ah (cv,ws))(hx:dP E w c x u):cv.kd=k/\Sc u cv/\sW cv=ak/\ws=[]:=by
 cases k with
 |i k=>
  cases x with
  |i k' n=>
   replace h:(if k=k' then Rd.ret (CV.i k n,[])else .fail:Rd (CV×ax (aE×dY))).val σ=ah (cv,ws):=h;split at h
   ·rename_i hk;subst hk;obtain⟨rfl,rfl⟩:=bN (aD h);exact⟨rfl,⟨hx,trivial⟩,rfl,rfl⟩
   ·simp at h
  |_=>simp[E6]at h
 |b=>
  cases x with
  |b n=>obtain⟨rfl,rfl⟩:=bN (aD h);exact⟨rfl,⟨hx,trivial⟩,rfl,rfl⟩
  |_=>simp[E6]at h
 |s=>
  cases x with
  |s n=>obtain⟨rfl,rfl⟩:=bN (aD h);exact⟨rfl,hx,rfl,rfl⟩
  |_=>simp[E6]at h
 |l=>simp[plain]at hp
 |o=>simp[plain]at hp
theorem zL{ex:aW}:∀{ks:ax Ck} {xs:ax AV} {cs:ax CV} {ws:ax (aE×dY)} (hp:plain ks=ai) (h:(wC ex ks xs).val σ=ah (cs,ws)),cs.map CV.kd=ks/\cs.length=xs.length/\ws=[]/\
  ∀(vals:c_ a_),eV E w c vals xs->∀(q:aE) (x:CV),cs[q]? =ah x->vals[q]? =ah (L8 x)/\sW x=ak/\okC x:=by
 intro ks;induction ks with
 |nil=>
  intro xs cs ws hp h;cases xs with
  |nil=>obtain⟨rfl,rfl⟩:=bN (aD h);exact⟨rfl,rfl,rfl,λ_ _ q x hq=>by simp at hq⟩
  |cons=>simp[wC]at h
 |cons k ks ih=>
  intro xs cs ws hp h;cases xs with
  |nil=>simp[wC]at h
  |cons x xs=>
   obtain⟨⟨cv,w1⟩,h1,h⟩:=Rd.bind_some h;obtain⟨⟨cr,w2⟩,h2,h⟩:=Rd.bind_some h;obtain⟨rfl,rfl⟩:=bN (aD h);simp only[plain,rh,aF]at hp;have Lm:plain [k]=true:=by simp[plain,hp.1]
   have hp2:plain ks=true:=hp.2;obtain⟨i1,i2,i3,i4⟩:=ih hp2 h2;have e1:=λu (hu:dP E w c x u)=>wB Lm h1 hu;have WT:cv.kd=k/\w1=[]:=by
    cases k<;>cases x<;>simp[E6,plain]at h1 Lm<;>first
     |(obtain⟨rfl,rfl⟩:=h1;exact⟨rfl,rfl⟩)
     |(split at h1<;>simp at h1;rename_i hk;subst hk;obtain⟨rfl,rfl⟩:=h1;exact⟨rfl,rfl⟩)
   refine⟨by simp[WT.1,i1],by simp[i2],by rw[WT.2,i3];rfl,λvals hv q y hq=> ?_⟩
   cases q with
   |zero=>cases hq;obtain⟨u,hu,ha⟩:=hv.2 0 x rfl;obtain⟨_,⟨rfl,ho⟩,hl,_⟩:=e1 u ha;exact⟨hu,hl,ho⟩
   |succ q=>
    have OD:eV E w c (vals.extract 1 vals.size) xs:=by
     refine⟨by simp;have:=hv.1;simp at this;omega,λj b hj=> ?_⟩
     obtain⟨u,hu,hb⟩:=hv.2 (j+1) b hj;refine⟨u, ?_,hb⟩
     have:=(dF.1 hu).1;rw[dL,bu (by omega),il];exact hu
    obtain⟨r1,r2⟩:=i4 _ OD q y hq;refine⟨?_,r2⟩
    rw[dL]at r1;split at r1
    ·rw[il];exact r1
    ·cases r1
theorem Va{s:Sem Unit}{w':bB}(hr:s.run P w= .ok () w'):(do s;pure Next.skip:Sem Next).run P w= .ok .skip w':=by simp only[b8,hr,bn,cB]
theorem Ct:∀{ys:ax AV} {q0 q n2:aE},wK q0 ys=ah (q,n2)->q0<=q/\ys[q-q0]? =ah (.own n2)/\∀(k m:aE),ys[k]? =ah (.own m)->k=q-q0:=by
 have Uw:∀{ys:ax AV},FR ys=ai->∀(k m:aE),ys[k]? ≠ah (.own m):=by
  intro ys;induction ys with
  |nil=>intro h k m h;simp at h
  |cons y ys ih=>
   intro h k m hk;cases y with
   |own n=>cases h
   |_=>
    cases k with
    |zero=>cases hk
    |succ k=>exact ih (by simpa [FR]using h) k m hk
 intro ys;induction ys with
 |nil=>intro q0 q n2 h;cases h
 |cons y ys ih=>
  intro q0 q n2 h;have step:wK (q0+1) ys=ah (q,n2)->(∀m,y≠ .own m)->q0<=q/\(y::ys)[q-q0]? =ah (.own n2)/\∀(k m:aE),(y::ys)[k]? =ah (.own m)->k=q-q0:=by
   intro h hy;obtain⟨h1,h2,h3⟩:=ih h;have e:q-q0=(q-(q0+1))+1:=by omega
   refine⟨by omega,by rw[e,dy];exact h2,λk m hk=> ?_⟩
   cases k with
   |zero=>cases hk;exact cw rfl (hy m)
   |succ k=>have:=h3 k m hk;omega
  cases y with
  |own n=>
   unfold wK at h;cases h1:FR ys with
   |false=>rw[h1]at h;cases h
   |true=>
    rw[h1]at h;cases h;refine⟨cm _,by rw[YY];rfl,λk m hk=> ?_⟩
    cases k with
    |zero=>omega
    |succ k=>exact cw hk (Uw h1 k m)
  |_=>exact step (by simpa [wK]using h) (λm h=>by cases h)
theorem SE{E:eP}{w:bB}{c:eB}{e2 n2:aE}{zs:aU}:∀{ks:ax Ck} {ys:ax AV} {cs:ax CV},Br e2 n2 zs ks ys=ah cs->cs.map CV.kd=ks/\cs.length=ys.length/\
  ∀(q:aE) (x:CV),cs[q]? =ah x->∃y,ys[q]? =ah y/\((sW x=ak/\∀u,dP E w c y u->Sc u x)\/(x= .l e2 zs/\y= .own n2)):=by
 intro ks;induction ks with
 |nil=>
  intro ys cs h;cases ys with
  |nil=>cases h;exact⟨rfl,rfl,λq x h=>by simp at h⟩
  |cons=>cases h
 |cons k ks ih=>
  intro ys cs h
  have go:∀{y:AV} {r:ax AV} {x:CV},ys=y::r->(Br e2 n2 zs ks r).map (x:: ·)=ah cs->x.kd=k->((sW x=ak/\∀u,dP E w c y u->Sc u x)\/(x= .l e2 zs/\y= .own n2))->
    cs.map CV.kd=k::ks/\cs.length=ys.length/\∀(q:aE) (x:CV),cs[q]? =ah x->∃y,ys[q]? =ah y/\((sW x=ak/\∀u,dP E w c y u->Sc u x)\/(x= .l e2 zs/\y= .own n2)):=by
   intro y r x hy hm hk hx
   subst hy
   cases hr:Br e2 n2 zs ks r with
   |none=>rw[hr]at hm;cases hm
   |some cr=>
    rw[hr]at hm;cases hm;obtain⟨i1,i2,i3⟩:=ih hr;refine⟨by simp[hk,i1],by simp[i2],λq z hq=> ?_⟩
    cases q with
    |zero=>cases hq;exact⟨y,rfl,hx⟩
    |succ q=>exact i3 q z hq
  cases ys with
  |nil=>cases k<;>cases h
  |cons y r=>
   cases k with
   |i k=>
    cases y with
    |i k' n=>
     unfold Br at h;split at h
     ·rename_i hk;subst hk;exact go rfl h rfl (.inl ⟨rfl,λu hu=>⟨hu,trivial⟩⟩)
     ·cases h
    |_=>cases h
   |b=>
    cases y with
    |b n=>exact go rfl h rfl (.inl ⟨rfl,λu hu=>⟨hu,trivial⟩⟩)
    |_=>cases h
   |s=>
    cases y with
    |s n=>exact go rfl h rfl (.inl ⟨rfl,λu hu=>hu⟩)
    |_=>cases h
   |l e=>
    cases y with
    |own n=>
     unfold Br at h;cases hb:(bh e e2&&bh n n2)with
     |false=>rw[hb]at h;cases h
     |true=>rw[hb,ay]at h;simp only[aF]at hb;have:=aQ hb.1;subst this;have:=aQ hb.2;subst this;exact go rfl h rfl (.inr ⟨rfl,rfl⟩)
    |_=>cases h
   |o=>cases y<;>cases h
theorem La(b7:Ok E σ w c)(di:eG E σ a w c)(hd:∀d,o.dst=ah d->d<a.tmps.size){n i j:aE}{ys:ax AV}{ws:ax (aE×dY)}{X:c_ a_}(hF:uh n=ai)(hi:i<(c.P n).n)(h:(Ea E n i j ys).val σ=ah ws)(nT:eV E w c X ys)(mh:0<ys.length)
  (exec:∀(cur:c_ a_),oX w (c.P n).blk cur->(c.P n).off+i*(c.P n).sz+j+X.size<=cur.size->(execOp a.eval o).run P w= .ok .skip (w.setRow (c.P n).blk (iJ cur ((c.P n).off+i*(c.P n).sz+j) X.toList))):fT P E σ a w c o (ws++dw o .un):=by
 unfold Ea at h;obtain⟨ob,hg0,h⟩:=Rd.bind_some h;have hg:=cY hg0;split at h
 ·rename_i el xs;obtain⟨te,h6,h⟩:=Rd.bind_some h;have h6:=dC h6;split at h
  ·rename_i q n2 Fx;cases hb0:bh n n2 with
   |true=>rw[hb0]at h;simp at h
   |false=>
    rw[hb0,aC]at h;have iq:n≠n2:=λe=>by subst e;rw[Nat.beq_refl]at hb0;cases hb0
    obtain⟨ob2,ak5,h⟩:=Rd.bind_some h;have V_:=cY ak5;split at h
    ·rename_i e2 zs;obtain⟨t2,h7,h⟩:=Rd.bind_some h;have h7:=dC h7;obtain⟨h8,h⟩:=cj h;simp only[aF]at h8;obtain⟨sA,hle⟩:=h8;have hle:=cu hle;split at h
     ·rename_i cs A3;obtain rfl:=aD h;obtain⟨m1,m2,m3⟩:=SE (E:=E) (w:=w) (c:=c) A3;obtain⟨_,_,hu⟩:=Ct Fx;rw[Nat.sub_zero]at hu;obtain⟨⟨t1,q1,fm,lK⟩,fN,gO⟩:=b7.obj n _ hg;obtain rfl:te=t1:=aD (h6.symm.trans q1);obtain⟨⟨t3,q3,HD,z7⟩,lU,_⟩:=b7.obj n2 _ V_;obtain rfl:t2=t3:=aD (h7.symm.trans q3);have jt:j+cs.length<=te.ks.length:=by rw[m2];exact hle
      have ZT:cs.map CV.kd=(te.ks.drop j).take cs.length:=by rw[m1,m2]
      have km:i<xs.length:=by rw[<-fN.n];exact hi
      obtain⟨iu,vals,hb⟩:=fN.pos hi;have HA:=jW lK;have pk:=sI lK ZT jt km;have zX:=jW pk;have same:∀i' j',fD (eA xs i j cs) i' j'->fD xs i' j':=λi' j' hx=>(HA i' j').2 (by have:=(zX i' j').1 hx;rwa[iY]at this);have GD:∀y∈xs,y.length=(c.P n).sz:=λy hy=>by rw[fm,<-lK y hy];simp
      let w':=w.setRow (c.P n).blk (iJ vals ((c.P n).off+i*(c.P n).sz+j) X.toList);have nU:∀b,b≠(c.P n).blk->w'.heap[b]? =w.heap[b]? :=λb hb=>setRow_other w _ b _ hb;have anL:∀i j,¬fD zs i j:=by rintro i j ⟨y,x,h1,h2,h3⟩;rw[ic sA (z7 y (aP h1)) h2]at h3;cases h3
      have UD:(c.P n2).nil=ak->eN c n2 (.row e2 ai zs) (c.P n2).blk:=λhn=> .inl ⟨hn,rfl⟩;have Au:eN c n (.row el ai xs) (c.P n).blk:= .inl ⟨iu,rfl⟩;have aei:(c.P n2).nil=ak->(c.P n2).blk≠(c.P n).blk:=λhn he=>iq (b7.sep n _ n2 _ _ hg V_ Au (by rw[<-he];exact UD hn));let c':eB:=⟨c.P,λm i' j'=>if m=n/\i'=i/\j'=j+q then c.P n2 else c.G m i' j',c.K⟩
      have hG1:c'.G n i (j+q)=c.P n2:=bu ⟨rfl,rfl,rfl⟩;have hG2:∀i' j',¬(i'=i/\j'=j+q)->c'.G n i' j'=c.G n i' j':=λi' j' h=>bJ (λe=>h ⟨e.2.1,e.2.2⟩);have hG3:∀m,m≠n->c'.G m=c.G m:=λm hm=>by funext i' j';exact bJ (λe=>hm e.1)
      have Ts:∀i' j',fD (eA xs i j cs) i' j'->(c'.G n i' j').nil=ak->(i'=i/\j'=j+q/\(c.P n2).nil=ak/\(c'.G n i' j').blk=(c.P n2).blk)\/(¬(i'=i/\j'=j+q)/\(c.G n i' j').nil=ak/\(c'.G n i' j').blk=(c.G n i' j').blk/\eN c n (.row el ai xs) (c.G n i' j').blk):=by
       intro i' j' hh hn;by_cases he:i'=i/\j'=j+q
       ·obtain⟨rfl,rfl⟩:=he;rw[hG1]at hn⊢;exact .inl ⟨rfl,rfl,hn,rfl⟩
       ·rw[hG2 i' j' he]at hn⊢;exact .inr ⟨he,hn,rfl, .inr ⟨rfl,i',j',same i' j' hh,hn,rfl⟩⟩
      obtain⟨mK,uO⟩:=im.afu (R':=λi1 j1 u1 x1=>if ai=ai then XC E w' (c'.G n) i1 j1 u1 x1 else cQ E w' c'.K u1 x1) fN hb GD (i:=i) (j:=j) (cs:=cs) (vs:=X.toList) hi (by rw[fm];exact jt) (by rw[dp,nT.1,m2])
       (λk x hk=>by
        obtain⟨y,hy,hxy⟩:=m3 k x hk;obtain⟨u,hu1,hu2⟩:=nT.2 k y hy;refine⟨u,by rw[cC];exact hu1, ?_⟩
        rw[bu rfl];rcases hxy with ⟨hl,hsc⟩|⟨rfl,rfl⟩
        ·exact vi hl (hsc u hu2)
        ·have tN:k=q:=hu k n2 hy;subst tN;have hu2:u=mf (c.P n2):=hu2;refine⟨by rw[hG1];exact hu2,t2,h7,sA,by rw[hG1];exact HD,z7, ?_⟩
         rw[hG1];exact lU.frame (λhn=>nU _ (aei hn)) (λi1 j1 y1 x1 u1 g1 g2 hr=>by rw[bu rfl]at hr;exact vA hr (ic sA (z7 y1 (aP g1)) g2)))
       (λi1 y1 j1 x1 u1 h1 h2 aly hr=>by
        rw[bu rfl]at hr⊢;have GC:XC E w' (c.G n) i1 j1 u1 x1:=hr.frame (λhl hn=>nU _ ((gO rfl).out i1 j1 ⟨y1,x1,h1,h2,hl⟩ hn iu));have aln:¬(i1=i/\j1=j+q):=by
         rintro ⟨rfl,rfl⟩;have hq:q<cs.length:=by obtain⟨_,hq,_⟩:=Ct Fx;rw[Nat.sub_zero]at hq;rw[m2];exact(aT.1 hq).1
         rcases aly with h|h
         ·exact h rfl
         ·exact h ⟨by omega,by omega⟩
        cases x1 with
        |l ee zz=>obtain⟨r1,r2⟩:=GC;unfold XC;rw[hG2 i1 j1 aln];exact⟨r1,r2⟩
        |i=>exact GC
        |b=>exact GC
        |s=>exact GC)
      have hr:=exec vals hb (by rw[dp]at mK;exact mK);let σ1:=nG (nG σ (cK n) (.o (.row el ai (eA xs i j cs)))) (cK n2) (.o .dead);obtain⟨s1,s2,s3⟩:=oz σ1 o .un;have key:∀m,wr σ1 (dw o .un) (cK m)=if m=n2 then .o .dead else if m=n then .o (.row el ai (eA xs i j cs))else σ (cK m):=λm=>by rw[s3];show(nG (nG σ (cK n) (.o (.row el ai (eA xs i j cs)))) (cK n2) (.o .dead)) (cK m)=_;rw[nv,nv]
      have Ow:∀m,σ (cK m)≠ .iU->wr σ1 (dw o .un) (cK m)≠ .iU:=λm hm=>by rw[key];split;simp;split;simp;exact hm
      have hA:oC σ c c':=λm _=>⟨rfl,λhf=>hG3 m (λe=>by subst e;rw[hF]at hf;cases hf)⟩
      have hCh:∀m,m=n\/m=n2->∃ob,σ (cK m)= .o ob:=by rintro m (rfl|rfl);exact⟨_,hg⟩;exact⟨_,V_⟩
      have gJ:∀m x,(m=n\/m=n2)->wr σ1 (dw o .un) (cK m)= .o x->(m=n2/\x= .dead)\/(m=n/\x= .row el ai (eA xs i j cs)):=by
       intro m x hm hx;rw[key]at hx;by_cases SD:m=n2
       ·rw[bu SD]at hx;cases hx;exact .inl ⟨SD,rfl⟩
       ·rw[bJ SD,bu (hm.resolve_right SD)]at hx;cases hx;exact .inr ⟨hm.resolve_right SD,rfl⟩
      have hh:=b7.qc (σ':=wr σ1 (dw o .un)) (w':=w') (c':=c') (λm=>m=n\/m=n2) (λm hm=>by rw[key,bJ (λe=>hm (.inr e)),bJ (λe=>hm (.inl e))]) Ow hA (λm hm _=>hG3 m (λe=>hm (.inl e)))
       (λb _ Ov=>nU b (λe=>Ov ⟨n,_, .inl rfl,hg,by rw[e];exact Au⟩)) (by simp[w',jd]) (λ_ h=>h) (λ_ h=> .inl h) (λb hb=>gF (b7.lt b hb) (by simp[w',jd]))
       (λm x hm hx=>by
        rcases gJ m x hm hx with ⟨rfl,rfl⟩|⟨rfl,rfl⟩
        ·trivial
        ·refine⟨⟨te,q1,fm,pk⟩,uO,λ_=>⟨λi1 j1 hh hn _ he=> ?_,λi1 j1 i2 j2 h1 h2 n1 n2' he=> ?_⟩⟩
         ·rcases Ts i1 j1 hh hn with ⟨_,_,g1,g2⟩|⟨_,g1,g2,g3⟩
          ·exact aei g1 (g2.symm.trans he)
          ·exact(gO rfl).out i1 j1 (same i1 j1 hh) g1 iu (g2.symm.trans he)
         ·rcases Ts i1 j1 h1 n1 with ⟨a1,a2,a3,a4⟩|⟨a1,a2,a3,a4⟩<;>rcases Ts i2 j2 h2 n2' with ⟨b1,b2,b3,b4⟩|⟨b1,b2,b3,b4⟩
          ·exact⟨a1.trans b1.symm,a2.trans b2.symm⟩
          ·exfalso;exact iq (b7.sep m _ n2 _ _ hg V_ b4 (by rw[<-b3,<-he,a4];exact UD a3))
          ·exfalso;exact iq (b7.sep m _ n2 _ _ hg V_ a4 (by rw[<-a3,he,b4];exact UD b3))
          ·exact(gO rfl).one i1 j1 i2 j2 (same i1 j1 h1) (same i2 j2 h2) a2 b2 (a3.symm.trans (he.trans b3)))
       (λm x b hm hx hf=>by
        rcases gJ m x hm hx with ⟨rfl,rfl⟩|⟨rfl,rfl⟩
        ·exact hf.elim
        ·have adx:jf (λk=>k=m\/k=n2) σ c b:=by
          rcases hf with ⟨_,rfl⟩|⟨_,i1,j1,hh,hn,rfl⟩
          ·exact⟨m,_, .inl rfl,hg,Au⟩
          ·rcases Ts i1 j1 hh hn with ⟨_,_,g1,g2⟩|⟨_,g1,g2,g3⟩
           ·rw[g2];exact⟨n2,_, .inr rfl,V_,UD g1⟩
           ·rw[g2];exact⟨m,_, .inl rfl,hg,g3⟩
         exact⟨.inl adx,b7.HQ adx.own⟩)
       (λm x m' x' b hm uQ hx nV hf uP=>by
        rcases gJ m x hm hx with ⟨rfl,rfl⟩|⟨rfl,rfl⟩
        ·exact hf.elim
        ·rcases gJ m' x' uQ nV with ⟨rfl,rfl⟩|⟨rfl,rfl⟩
         ·exact uP.elim
         ·rfl)
       (λm bs hm hx=>by rcases gJ m _ hm hx with ⟨_,h⟩|⟨_,h⟩<;>cases h) rfl rfl rfl
      intro K Q hK;refine uc hr (hK undef w' c' hh.1 ?_ hh.2 hA);refine di.qc b7 hh.2 hA Ow o undef (λk hk=>by rw[s1 k hk];show slot (nG (nG σ (cK n) (.o (.row el ai (eA xs i j cs)))) (cK n2) (.o .dead)) k=_;rw[gY,gY]) (λd ho=>⟨hd d ho, ?_, ?_⟩)
      ·rw[s2 d ho];trivial
      ·rw[s2 d ho];intro k hk;simp[ch]at hk
     ·simp at h
    ·simp at h
  ·simp at h
 ·simp at h
theorem Tz{ys:ax AV}{n i j lo hi:aE}(h:Ty ys=ah (n,i,j,lo,hi)):ys=[.iv n i j lo hi]:=by
 unfold Ty at h;split at h
 ·cases h;rfl
 ·cases h
theorem Ol(b7:Ok E σ w c)(di:eG E σ a w c)(hd:∀d,o.dst=ah d->d<a.tmps.size){n i j i2 j2 lo DJ:aE}{ws:ax (aE×dY)}{X:c_ a_}(hF:uh n=ak)(hi:i<(c.P n).n)(h:(Sy E n i j i2 j2 lo DJ).val σ=ah ws)(nT:eV E w c X [.iv n i2 j2 lo DJ])
  (exec:∀(cur:c_ a_),oX w (c.P n).blk cur->(c.P n).off+i*(c.P n).sz+j+X.size<=cur.size->(execOp a.eval o).run P w= .ok .skip (w.setRow (c.P n).blk (iJ cur ((c.P n).off+i*(c.P n).sz+j) X.toList))):fT P E σ a w c o (ws++dw o .un):=by
 unfold Sy at h;obtain⟨ob,hg0,h⟩:=Rd.bind_some h;have hg:=cY hg0;split at h
 ·rename_i el xs;obtain⟨te,h6,h⟩:=Rd.bind_some h;have h6:=dC h6;split at h
  ·rename_i e2 e3 hk xE;obtain⟨hb0,h9⟩:=cj h;clear h;have:=aQ hb0;subst this;obtain rfl:=aD h9;obtain⟨u,hu,⟨⟨Bu,hvw⟩,_⟩⟩:=nT.2 0 _ rfl;obtain⟨⟨t1,q1,fm,lK⟩,fN,gO⟩:=b7.obj n _ hg;obtain rfl:te=t1:=aD (h6.symm.trans q1);obtain⟨zs,y,t3,r1,r2,r3,r4,r5,r6,r7,_⟩:=uT b7 hg h6 xE Bu;rw[ew r1 r2];simp only[g9];generalize A3:[CV.l e2 (dW zs lo DJ)]=cs;have adp:cs.length=1:=by rw[<-A3];rfl
   have hjk:j<te.ks.length:=(aT.1 hk).1;have jt:j+cs.length<=te.ks.length:=by omega
   have ZT:cs.map CV.kd=(te.ks.drop j).take cs.length:=by rw[adp,List.take_one,VP,hk,<-A3];rfl
   have km:i<xs.length:=by rw[<-fN.n];exact hi
   obtain⟨iu,vals,hb⟩:=fN.pos hi;have pk:=sI lK ZT jt km;have GD:∀y∈xs,y.length=(c.P n).sz:=λy hy=>by rw[fm,<-lK y hy];simp
   let w':=w.setRow (c.P n).blk (iJ vals ((c.P n).off+i*(c.P n).sz+j) X.toList);have nU:∀b,b≠(c.P n).blk->w'.heap[b]? =w.heap[b]? :=λb hb=>setRow_other w _ b _ hb;have Au:eN c n (.row el ai xs) (c.P n).blk:= .inl ⟨iu,rfl⟩;let K':aE->Prop:=λb=>c.K b\/∃i1 j1,fD xs i1 j1/\(c.G n i1 j1).nil=ak/\b=(c.G n i1 j1).blk;let c':eB:=⟨c.P,c.G,K'⟩
   have ZE:∀b,K' b->b≠(c.P n).blk:=by
    rintro b (hb|⟨i1,j1,hh,hn,rfl⟩) he
    ·exact b7.kk n _ _ hg Au (he▸hb)
    ·exact(gO rfl).out i1 j1 hh hn iu he
   have hold:∀(i1:aE) (y1:ax CV) (j1:aE) (x1:CV) (u1:a_),xs[i1]? =ah y1->y1[j1]? =ah x1->XC E w (c.G n) i1 j1 u1 x1->cQ E w' K' u1 x1:=by intro i1 y1 j1 x1 u1 h1 h2 hr;have hh:cQ E w K' u1 x1:=rZ hr (λhl hn=> .inr ⟨i1,j1,⟨y1,x1,h1,h2,hl⟩,hn,rfl⟩);exact hh.frame (λb hb=>nU b (ZE b hb)) (λ_ h=>h)
   have zZ:cQ E w' K' u (.l e2 (dW zs lo DJ)):=by
    have hh:cQ E w K' (mf (c.G n i2 j2)) (.l e2 zs):=
     mN r3 r5 r6 (r7.frame (λ_=>rfl) (λi j y x u hi hj hr=>jb (ic r4 (r6 y (aP hi)) hj) hr)) (λhn=> .inr ⟨i2,j2,⟨y,_,r1,r2,rfl⟩,hn,rfl⟩)
    exact(z5 r3 hh r7.n r5 hvw).frame (λb hb=>nU b (ZE b hb)) (λ_ h=>h)
   obtain⟨mK,uO⟩:=im.put (R':=λi1 j1 u1 x1=>if ak=ai then XC E w' (c'.G n) i1 j1 u1 x1 else cQ E w' c'.K u1 x1) fN hb GD (i:=i) (j:=j) (cs:=cs) (vs:=X.toList) hi (by rw[fm];exact jt) (by rw[dp,nT.1,adp];rfl)
    (λk x hk=>by
     rw[<-A3]at hk;cases k with
     |zero=>
      cases hk;refine⟨u,by rw[cC];exact hu, ?_⟩
      rw[bJ (by simp)];exact zZ
     |succ k=>simp at hk)
    (λi1 y1 j1 x1 u1 h1 h2 hr=>by rw[bu rfl]at hr;rw[bJ (by simp)];exact hold i1 y1 j1 x1 u1 h1 h2 hr)
   have hr:=exec vals hb (by rw[dp]at mK;exact mK);let σ1:=nG σ (cK n) (.o (.row el ak (eA xs i j cs)));obtain⟨s1,s2,s3⟩:=oz σ1 o .un;have key:∀m,wr σ1 (dw o .un) (cK m)=if m=n then .o (.row el ak (eA xs i j cs))else σ (cK m):=λm=>by rw[s3];show(nG σ (cK n) (.o (.row el ak (eA xs i j cs)))) (cK m)=_;rw[nv]
   have Ow:∀m,σ (cK m)≠ .iU->wr σ1 (dw o .un) (cK m)≠ .iU:=λm hm=>by rw[key];split;simp;exact hm
   have hA:oC σ c c':=λm _=>⟨rfl,λ_=>rfl⟩
   have gJ:∀m x,m=n->wr σ1 (dw o .un) (cK m)= .o x->x= .row el ak (eA xs i j cs):=by intro m x hm hx;rw[key,bu hm]at hx;cases hx;rfl
   have hh:=b7.qc (σ':=wr σ1 (dw o .un)) (w':=w') (c':=c') (λm=>m=n) (λm hm=>by rw[key,bJ hm]) Ow hA (λm hm _=>rfl)
    (λb _ Ov=>nU b (λe=>Ov ⟨n,_,rfl,hg,by rw[e];exact Au⟩)) (by simp[w',jd]) (λ_ h=> .inl h)
    (λb hb=>by
     rcases hb with hb|⟨i1,j1,hh,hn,rfl⟩
     ·exact .inl hb
     ·exact .inr (.inl ⟨n,_,rfl,hg, .inr ⟨rfl,i1,j1,hh,hn,rfl⟩⟩))
    (λb hb=>by
     have ji:b<w.heap.size:=by
      rcases hb with hb|⟨i1,j1,hh,hn,rfl⟩
      ·exact b7.lt b hb
      ·exact vH.lt b7 ⟨n,_,hg, .inr ⟨rfl,i1,j1,hh,hn,rfl⟩⟩
     exact gF ji (by simp[w',jd]))
    (λm x hm hx=>by obtain rfl:=gJ m x hm hx;subst hm;exact⟨⟨te,q1,fm,pk⟩,uO,λh=>by cases h⟩)
    (λm x b hm hx hf=>by
     obtain rfl:=gJ m x hm hx;subst hm;rcases hf with ⟨_,rfl⟩|⟨hx,_⟩
     ·exact⟨.inl ⟨m,_,rfl,hg,Au⟩,λhk=>ZE _ hk rfl⟩
     ·cases hx)
    (λm x m' x' b hm uQ hx nV hf uP=>by rw[hm,uQ])
    (λm bs hm hx=>by have:=gJ m _ hm hx;cases this) rfl rfl rfl
   intro K Q hK;refine uc hr (hK undef w' c' hh.1 ?_ hh.2 hA);refine di.qc b7 hh.2 hA Ow o undef (λk hk=>by rw[s1 k hk];show slot (nG σ (cK n) (.o (.row el ak (eA xs i j cs)))) k=_;rw[gY]) (λd ho=>⟨hd d ho, ?_, ?_⟩)
   ·rw[s2 d ho];trivial
   ·rw[s2 d ho];intro k hk;simp[ch]at hk
  ·simp at h
 ·simp at h
theorem PH(hE:dS P E)(b7:Ok E σ w c)(di:eG E σ a w c)(hd:∀d,o.dst=ah d->d<a.tmps.size){t:aE}{p x:c5}(ho:o.op= .store t p x)(h:(kM E nm o).val σ=ah e):fT P E σ a w c o e.ws:=by
 simp only[kM,ho]at h;obtain⟨ti,h1,h⟩:=Rd.bind_some h;obtain⟨pv,h2,h⟩:=Rd.bind_some h;obtain⟨xv,h3,h⟩:=Rd.bind_some h;have h1:=dC h1;obtain⟨ep,kp⟩:=ij di h2;obtain⟨ex,kx⟩:=kX di h3;cases xv with
 |v g ys=>
  obtain⟨h4,h⟩:=cj h;have h4:=aQ h4;obtain⟨ws,h5,h⟩:=Rd.bind_some h;obtain rfl:=aD h;have nT:=o4.cells ex;have A3:(a.eval x).cells.size=ti.ks.length:=by rw[nT.1,h4]
  have ky:∀b∈ys,iz σ b:=λb hb n hn=>kx n (bA.2 ⟨b,hb,hn⟩);obtain⟨_,_,_,_,mh,_⟩:=hE.info t ti h1;have exec:∀{b of:aE} {cur:c_ a_},a.eval p= .pointer (ah (ad b of))->oX w b cur->of+(a.eval x).cells.size<=cur.size->(execOp a.eval o).run P w= .ok .skip (w.setRow b (iJ cur of (a.eval x).cells.toList)):=by intro b of cur hp hb hf;unfold execOp;rw[ho];refine Va ?_;rw[hp];exact Ge w hE h1 A3 hb hf nT.one
  have hkK:∀(b:aE) (new:c_ a_),vH σ c b->∀b',c.K b'->(w.setRow b new).heap[b']? =w.heap[b']? :=by intro b new hb b' hk;exact setRow_other w b b' new (λe=>by subst e;exact b7.HQ hb hk)
  have h50:(Eb E pv ys).val σ=ah ws\/(∃n i j,pv= .rp n i j/\uh n=ai/\(Ea E n i j ys).val σ=ah ws)\/(∃n i j i2 j2 lo hi,pv= .rp n i j/\uh n=ak/\ys=[.iv n i2 j2 lo hi]/\(Sy E n i j i2 j2 lo hi).val σ=ah ws):=by
   cases pv with
   |rp n i j=>
    unfold QL at h5;simp only at h5;cases hF:uh n with
    |true=>rw[hF,ay]at h5;exact .inr (.inl ⟨n,i,j,rfl,hF,h5⟩)
    |false=>
     rw[hF,aC]at h5;cases hv:Ty ys with
     |none=>rw[hv]at h5;exact .inl h5
     |some q=>obtain⟨n2,i2,j2,lo,hi⟩:=q;rw[hv]at h5;obtain⟨hb,h9⟩:=cj h5;clear h5;have:=aQ hb;subst this;exact .inr (.inr ⟨n,i,j,i2,j2,lo,hi,rfl,hF,Tz hv,h9⟩)
   |_=>exact .inl h5
  clear h5;rcases h50 with h5|⟨n,i,j,rfl,hF,h5⟩|⟨n,i,j,i2,j2,lo,hi,rfl,hF,rfl,h5⟩
  rotate_left
  ·obtain⟨hpi,Z5⟩:=ep;exact La b7 di hd hF hpi h5 nT (by rw[<-h4]at mh;exact mh) (λcur hb hf=>exec Z5 hb hf)
  ·obtain⟨hpi,Z5⟩:=ep;exact Ol b7 di hd hF hpi h5 nT (λcur hb hf=>exec Z5 hb hf)
  cases pv with
  |bp n j=>
   obtain⟨ob,hg,h5⟩:=Rd.bind_some h5;have hg:=cY hg;cases ob with
   |box xs=>
    obtain⟨h6,h5⟩:=cj h5;have h6:=cu h6;obtain rfl:=aD h5;obtain⟨cur,hb,fm,V6⟩:=b7.obj n _ hg;have tO:vH σ c (c.P n).blk:=⟨n,_,hg,rfl⟩
    have mK:j+(a.eval x).cells.size<=cur.size:=by rw[nT.1,fm];exact h6
    have adu:j+(a.eval x).cells.toList.length<=cur.size:=by rw[dp];exact mK
    have ZQ:=hkK (c.P n).blk (iJ cur j (a.eval x).cells.toList) tO;refine rK b7 di hd hg (ob':= .box (iH xs j ys)) ?_ (λb hb=>hb) (λzs hz b hb=> ?_) (s:= .un) trivial (λn hn=>by simp[ch]at hn) (λb hb Mu=>setRow_other w _ b _ (λe=>Mu e)) (by simp[jd]) rfl rfl rfl (.inr ⟨exec ep hb mK,rfl⟩)
    ·have:=(eV.put (E:=E) (w:=w) (c:=c) ⟨fm,V6⟩ nT h6)
     refine⟨_,hb.setRow (jc adu),this.1,λq b hq=> ?_⟩
     obtain⟨u,hu,hub⟩:=this.2 q b hq;exact⟨u,hu,hub.frame ZQ (λ_ h=>h) (λ_ _=>⟨rfl,rfl⟩)⟩
    ·cases hz;rcases Ae hb with hb|hb
     ·exact b7.kn n xs hg b hb
     ·exact ky b hb
   |_=>simp at h5
  |rp n i j=>
   obtain⟨ob,hg,h5⟩:=Rd.bind_some h5;have hg:=cY hg;cases ob with
   |row el yu xs=>
    obtain⟨te,h6,h5⟩:=Rd.bind_some h5;have h6:=dC h6;obtain⟨h7,h5⟩:=cj h5;obtain⟨⟨cs,w2⟩,h8,h5⟩:=Rd.bind_some h5;obtain rfl:=aD h5;obtain⟨m1,m2,_,m3⟩:=zL (E:=E) (w:=w) (c:=c) h7 h8;obtain⟨⟨t2,q1,fm,lK⟩,fN,gO⟩:=b7.obj n _ hg;obtain rfl:te=t2:=aD (h6.symm.trans q1);obtain⟨hi,Z5⟩:=ep;have hlk:cs.length=((te.ks.drop j).take ys.length).length:=by rw[<-m1];simp
    have jt:j+cs.length<=te.ks.length:=by
     rw[dU,eF]at hlk;have:0<cs.length:=by rw[m2,h4];exact mh
     omega
    have ZT:cs.map CV.kd=(te.ks.drop j).take cs.length:=by rw[m1,m2]
    have km:i<xs.length:=by rw[<-fN.n];exact hi
    have iu:(c.P n).nil=false:=by
     cases hn:(c.P n).nil with
     |false=>rfl
     |true=>have:=(fN.nil hn).1;subst this;simp at km
    have tO:vH σ c (c.P n).blk:=⟨n,_,hg, .inl ⟨iu,rfl⟩⟩
    have ZQ:=λnew=>hkK (c.P n).blk new tO;have HA:=jW lK;have pk:=sI lK ZT jt km;have zX:=jW pk;have same:∀i' j',fD (eA xs i j cs) i' j'->fD xs i' j':=λi' j' hx=>(HA i' j').2 (by have:=(zX i' j').1 hx;rwa[iY]at this);obtain⟨_,vals,hb⟩:=fN.pos hi;have GD:∀y∈xs,y.length=(c.P n).sz:=λy hy=>by rw[fm,<-lK y hy];simp
    have ak2:=ZQ (iJ vals ((c.P n).off+i*(c.P n).sz+j) (a.eval x).cells.toList);have hw:∀b,c.K b->(w.setRow (c.P n).blk (iJ vals ((c.P n).off+i*(c.P n).sz+j) (a.eval x).cells.toList)).heap[b]? =w.heap[b]? :=ak2;generalize JH:w.setRow (c.P n).blk (iJ vals ((c.P n).off+i*(c.P n).sz+j) (a.eval x).cells.toList)=w' at hw;have nU:∀b,b≠(c.P n).blk->w'.heap[b]? =w.heap[b]? :=λb hb=>by rw[<-JH];exact setRow_other w _ b _ hb
    obtain⟨mK,uO⟩:=im.put (R':=λi1 j1 u1 x1=>if yu=ai then XC E w' (c.G n) i1 j1 u1 x1 else cQ E w' c.K u1 x1) fN hb GD (i:=i) (j:=j) (cs:=cs) (vs:=(a.eval x).cells.toList) hi (by rw[fm];exact jt) (by rw[dp,nT.1,m2])
     (λq y hq=>by
      obtain⟨r1,r2,r3⟩:=m3 _ nT q y hq;refine⟨L8 y,by rw[cC];exact r1, ?_⟩
      split
      ·exact vi r2 ⟨rfl,r3⟩
      ·exact jb r2 ⟨rfl,r3⟩)
     (λi1 y1 j1 x1 u1 h1 h2 hr=>by
      cases yu with
      |true=>rw[bu rfl]at hr⊢;exact hr.frame (λhl hn=>nU _ ((gO rfl).out i1 j1 ⟨y1,x1,h1,h2,hl⟩ hn iu))
      |false=>rw[bJ (by simp)]at hr⊢;exact hr.frame hw (λ_ h=>h))
    rw[JH]at uO;refine rK b7 di hd hg (ob':= .row el yu (eA xs i j cs)) ?_ ?_ (λzs hz=>by cases hz) (s:= .un) trivial (λn hn=>by simp[ch]at hn) (w':=w') (λb hb Mu=>nU b (λe=>Mu (.inl ⟨iu,e⟩))) (by rw[<-JH];simp[jd]) (by rw[<-JH];rfl) (by rw[<-JH];rfl) (by rw[<-JH];rfl) (.inr ⟨?_,rfl⟩)
    ·exact⟨⟨te,q1,fm,pk⟩,uO,λhx=>⟨λi1 j1 hh=>(gO hx).out i1 j1 (same i1 j1 hh),λi1 j1 i2 j2 h1 h2=>(gO hx).one i1 j1 i2 j2 (same i1 j1 h1) (same i2 j2 h2)⟩⟩
    ·rintro b (hb|⟨hx,i1,j1,hh,hn⟩)
     ·exact .inl hb
     ·exact .inr ⟨hx,i1,j1,same i1 j1 hh,hn⟩
    ·rw[<-JH];refine exec Z5 hb ?_;rw[dp]at mK;exact mK
   |_=>simp at h5
  |ip n i j i2 j2=>
   obtain⟨ob,hg,h5⟩:=Rd.bind_some h5;have hg:=cY hg;cases ob with
   |row el yu xs=>
    cases yu with
    |false=>simp at h5
    |true=>
    obtain⟨te,h6,h5⟩:=Rd.bind_some h5;have h6:=dC h6;split at h5
    ·rename_i e2 xE;obtain⟨t2,h7,h5⟩:=Rd.bind_some h5;have h7:=dC h7;obtain⟨h8,h5⟩:=cj h5;obtain⟨⟨cs,w2⟩,h9,h5⟩:=Rd.bind_some h5;obtain rfl:=aD h5;have adM:plain ((t2.ks.drop j2).take ys.length)=true:=bj.2 (λk hk=>bj.1 h8 k (kj (jR hk)));obtain⟨m1,m2,_,m3⟩:=zL (E:=E) (w:=w) (c:=c) adM h9;obtain⟨⟨hi,Bu,Z5⟩,_⟩:=ep;obtain⟨⟨t1,q1,fm,lK⟩,fN,gO⟩:=b7.obj n _ hg;obtain rfl:te=t1:=aD (h6.symm.trans q1);obtain⟨zs,y,t3,r1,r2,r3,r4,r5,r6,r7,_⟩:=uT b7 hg h6 xE hi;obtain rfl:t2=t3:=aD (h7.symm.trans r3);rw[ew r1 r2];simp only[g9];have hlk:cs.length=((t2.ks.drop j2).take ys.length).length:=by rw[<-m1];simp
     have jt:j2+cs.length<=t2.ks.length:=by
      rw[dU,eF]at hlk;have:0<cs.length:=by rw[m2,h4];exact mh
      omega
     have ZT:cs.map CV.kd=(t2.ks.drop j2).take cs.length:=by rw[m1,m2]
     have ak9:i2<zs.length:=by rw[<-r7.n];exact Bu
     have km:i<xs.length:=(aT.1 r1).1;obtain⟨z0,vals,hb⟩:=r7.pos Bu;obtain⟨iu,pv,hpb⟩:=fN.pos hi;have Bv:fD xs i j:=⟨y,_,r1,r2,rfl⟩
     have tO:vH σ c (c.G n i j).blk:=⟨n,_,hg, .inr ⟨rfl,i,j,Bv,z0,rfl⟩⟩
     have hw:=hkK (c.G n i j).blk (iJ vals ((c.G n i j).off+i2*(c.G n i j).sz+j2) (a.eval x).cells.toList) tO;have Lt:∀y∈zs,y.length=(c.G n i j).sz:=λy hy=>by rw[r5,<-r6 y hy];simp
     obtain⟨mK,uO⟩:=im.put (R':=λ_ _ u1 x1=>Sc u1 x1) r7 hb Lt (i:=i2) (j:=j2) (cs:=cs) (vs:=(a.eval x).cells.toList) Bu (by rw[r5];exact jt) (by rw[dp,nT.1,m2])
      (λq y hq=>⟨L8 y,by rw[cC];exact(m3 _ nT q y hq).1,rfl,(m3 _ nT q y hq).2.2⟩) (λ_ _ _ _ _ _ _ hr=>hr)
     generalize JH:w.setRow (c.G n i j).blk (iJ vals ((c.G n i j).off+i2*(c.G n i j).sz+j2) (a.eval x).cells.toList)=w' at hw uO;have nU:∀b,b≠(c.G n i j).blk->w'.heap[b]? =w.heap[b]? :=λb hb=>by rw[<-JH];exact setRow_other w _ b _ hb
     have hjk:j<te.ks.length:=(aT.1 xE).1;have ZU:[CV.l e2 (eA zs i2 j2 cs)].map CV.kd=(te.ks.drop j).take [CV.l e2 (eA zs i2 j2 cs)].length:=by rw[bQ,List.take_one,VP,xE];rfl
     have pk:=sI (i:=i) (j:=j) (cs:=[CV.l e2 (eA zs i2 j2 cs)]) lK ZU (by simp;omega) km;have HA:=jW lK;have zX:=jW pk;have same:∀i' j',fD (eA xs i j [CV.l e2 (eA zs i2 j2 cs)]) i' j'->fD xs i' j':=λi' j' hx=>(HA i' j').2 (by have:=(zX i' j').1 hx;rwa[iY]at this);have Z2:(c.P n).blk≠(c.G n i j).blk:=λe=>(gO rfl).out i j Bv z0 iu e.symm;have lU:im w' (c.P n) (eA xs i j [CV.l e2 (eA zs i2 j2 cs)]) (λi1 j1 u1 x1=>if ai=ai then XC E w' (c.G n) i1 j1 u1 x1 else cQ E w' c.K u1 x1):=by
      obtain⟨vs,k1,k2,k3,k4,k5⟩:=fN.mem iu;refine⟨by rw[iY];exact fN.n,λhn=>(by rw[iu]at hn;cases hn),λ_=>⟨vs,k1.frame (nU _ Z2),k2,k3,k4,λi1 y1 j1 x1 g1 g2=> ?_⟩⟩
      rw[vj r1]at g1;simp only[if_true]at k5⊢;by_cases Fs:i1=i
      ·subst Fs;rw[bu rfl]at g1;cases g1;have GD:y.length=te.ks.length:=by rw[<-lK y (aP r1)];simp
       rw[nY (by simp;omega)]at g2;by_cases hq:j<=j1/\j1<j+[CV.l e2 (eA zs i2 j2 cs)].length
       ·rw[bu hq]at g2;have:j1=j:=by simp at hq;omega
        subst this;simp at g2;subst g2;obtain⟨u,hu,hr⟩:=k5 _ _ _ _ r1 r2;refine⟨u,hu,hr.1,t2,r3,r4,r5,sI r6 ZT jt ak9,uO⟩
       ·rw[bJ hq]at g2;obtain⟨u,hu,hr⟩:=k5 _ _ _ _ r1 g2;refine⟨u,hu,hr.frame (λhl hn=>nU _ (λe=> ?_))⟩
        have:=((gO rfl).one _ _ _ _ ⟨y,x1,r1,g2,hl⟩ Bv hn z0 e).2;simp at hq;omega
      ·rw[bJ Fs]at g1;obtain⟨u,hu,hr⟩:=k5 _ _ _ _ g1 g2;exact⟨u,hu,hr.frame (λhl hn=>nU _ (λe=>Fs ((gO rfl).one _ _ _ _ ⟨y1,x1,g1,g2,hl⟩ Bv hn z0 e).1))⟩
     refine rK b7 di hd hg (ob':= .row el ai (eA xs i j [CV.l e2 (eA zs i2 j2 cs)])) ?_ ?_ (λzs hz=>by cases hz) (s:= .un) trivial (λn hn=>by simp[ch]at hn) (w':=w') (λb hb Mu=>nU b (λe=>Mu (.inr ⟨rfl,i,j,Bv,z0,e⟩))) (by rw[<-JH];simp[jd]) (by rw[<-JH];rfl) (by rw[<-JH];rfl) (by rw[<-JH];rfl) (.inr ⟨?_,rfl⟩)
     ·exact⟨⟨te,q1,fm,pk⟩,lU,λhx=>⟨λi1 j1 hh=>(gO hx).out i1 j1 (same i1 j1 hh),λi1 j1 i2 j2 h1 h2=>(gO hx).one i1 j1 i2 j2 (same i1 j1 h1) (same i2 j2 h2)⟩⟩
     ·rintro b (hb|⟨hx,i1,j1,hh,hn⟩)
      ·exact .inl hb
      ·exact .inr ⟨hx,i1,j1,same i1 j1 hh,hn⟩
     ·rw[<-JH];refine exec Z5 hb ?_;rw[dp]at mK;exact mK
    ·simp at h5
   |_=>simp at h5
  |_=>simp[Eb]at h5
 |jh=>simp at h
 |un=>simp at h
end
end Go.FG

namespace Go.FG
theorem LR{ks:ax Ck}(h:plain ks=ai):JW ks=true:=by refine bj.2 (λk hk=> ?_);have:=bj.1 h k hk;cases k<;>first|rfl|exact this
theorem rS{xs:aU}{ks:ax Ck}(h:∀y∈xs,y.map CV.kd=ks)(hp:plain ks=ai){i j:aE}:¬fD xs i j:=by intro hx;obtain⟨_,e,hk⟩:=(jW h i j).1 hx;have:=bj.1 hp _ (aP hk);cases this
theorem E0{xs z:aU}{lo hi:aE}(h1:lo<=hi)(h2:hi<=xs.length)(hz:z.length=hi-lo)(i:aE):(xs.take lo++z++xs.drop hi)[i]? =if lo<=i/\i<hi then z[i-lo]? else xs[i]? :=by
 by_cases a:i<lo
 ·rw[bJ (by omega),cf,dB (by simp;omega),d_,bu a]
 ·by_cases b:i<hi
  ·rw[bu ⟨by omega,b⟩,cf,cW (by simp;omega),dB (by simp;omega)];congr 1;simp;omega
  ·rw[bJ (by omega),cf,cW (by simp;omega),cW (by simp;omega),dN];congr 1;simp;omega
section
variable {P:cL} {E:eP} {σ:St} {a:Act} {w:bB} {c:eB} {o:eJ} {nm:aE} {e:qU}
theorem L5{t ty el:aE}{z:a_}{inf:AZ}(hu:P.underlying t=ah (.slice el))(hi:P.info? el=ah inf)(hz:inf.zero=ah z){b of n cp:aE}{cur:c_ a_}(hn:0<n)(hb:oX w b cur)(hf:of+n*z.cells.size<=cur.size)(h1:∀u∈z.cells.toList,u.oneCell'=ai):
  (nz #[t] ty #[.slice (ah (ad b of)) n cp]).run P w= .ok (.tuple #[]) (w.setRow b (iJ cur of (madeCells z.cells (n*z.cells.size)).toList)):=by
 have Lq:=oU (P:=P) w (o:=of) (vs:=(madeCells z.cells (n*z.cells.size)).toList) hb (by simpa [size_madeCells]using hf) (λv hv=>by
  unfold madeCells at hv;simp only[xQ,cO]at hv;obtain⟨q,hq,rfl⟩:=hv;have hq:q<n*z.cells.size:=by simpa using hq
  have hp:0<z.cells.size:=by rcases xV z.cells.size with h|h;(rw[h]at hq;simp at hq);exact h
  have:q%z.cells.size<z.cells.size:=EE _ hp;rw[getElem!_pos z.cells _ this];exact h1 _ (by simp))
 have hz':(fE z.cells n)=madeCells z.cells (n*z.cells.size):=rfl;cases n with
 |zero=>omega
 |succ n=>simp[nz,run_underlying hu,zeroValue,typeInfo,hi,hz,hz',Lq]
theorem AG{t ty el:aE}(hu:P.underlying t=ah (.slice el)){A:aA Addr}{cp:aE}:(nz #[t] ty #[.slice A 0 cp]).run P w= .ok (.tuple #[]) w:=by cases A<;>simp[nz,run_underlying hu]
theorem PD(hE:dS P E)(b7:Ok E σ w c)(di:eG E σ a w c)(hd:∀d,o.dst=ah d->d<a.tmps.size){cl:Call}(ho:o.op= .call cl)(hb:cl.callee= .builtin .clear)(h:(kM E nm o).val σ=ah e):fT P E σ a w c o e.ws:=by
 simp only[kM,ho,hb]at h;split at h
 ·rename_i x hx;split at h
  ·rename_i t ht;obtain⟨k,hk,h⟩:=Rd.bind_some h;cases k with
   |l el=>
    obtain⟨v,h1,h⟩:=Rd.bind_some h;obtain⟨ws,h2,h⟩:=Rd.bind_some h;obtain rfl:=aD h;obtain⟨ev,kv⟩:=ij di h1;have hu:=jH hE hk;have hx:=mr hx;have ht:=mr ht;have exec:∀{w'},(nz #[t] o.type #[a.eval x]).run P w= .ok (.tuple #[]) w'->(execOp a.eval o).run P w= .ok (.value (.tuple #[])) w':=by intro w' hr;obtain⟨cs,A3⟩:=lH (P:=P) (a:=a) (w:=w) ho hb;rw[A3,hx,ht];simp only[builtin,Bc,eK,zm];exact ia hr
    have sv:iA E w c (.jh []) (.tuple #[]):=⟨#[],rfl,rfl,λj agg xs hj=>by simp at hj⟩
    have aj:∀A cp,a.eval x= .slice A 0 cp->(execOp a.eval o).run P w= .ok (.value (.tuple #[])) w:=λA cp hv=>exec (by rw[hv];exact AG hu);have main:∀(n:aE) (ex:aW) (xs:aU) (lo hi:aE) (te:TI),σ (cK n)= .o (.row el ex xs)->E.ty el=ah te->plain te.ks=ai->tJ (c.P n) lo hi (a.eval x)->fT P E σ a w c o ([(cK n, .o (.row el ex (xs.take lo++aN te.ks (hi-lo)++xs.drop hi)))]++dw o (.jh [])):=by
     intro n ex xs lo hi te hg HE sA hv;obtain⟨⟨t2,q1,fm,lK⟩,fN,gO⟩:=b7.obj n _ hg;obtain rfl:te=t2:=aD (HE.symm.trans q1);obtain⟨v1,v2,v3,v4⟩:=hv;have hle:hi<=xs.length:=by rw[<-fN.n];exact v2
     have yv:=LR sA;have Lt:(aN te.ks (hi-lo)).length=hi-lo:=by simp[aN]
     by_cases hz:hi-lo=0
     ·have adQ:xs.take lo++aN te.ks (hi-lo)++xs.drop hi=xs:=by
       have:hi=lo:=by omega
       subst this;simp[aN]
      rw[adQ];have hr:(execOp a.eval o).run P w= .ok (.value (.tuple #[])) w:=by
       cases hq:(c.P n).nil with
       |true=>exact aj _ _ (v3 hq)
       |false=>
        rcases v4 hq with ⟨_,h⟩|⟨_,oo,_,h⟩
        ·rw[hz]at h;exact aj _ _ h
        ·exact aj _ _ h
      exact rK b7 di hd hg (b7.obj n _ hg) (λb hb=>hb) (λzs hz=>by cases hz) sv (λn hn=>by simp[ch]at hn) (λb _ _=>rfl) (cm _) rfl rfl rfl (.inl hr)
     ·have iu:(c.P n).nil=false:=by
       cases hq:(c.P n).nil with
       |false=>rfl
       |true=>have:=(fN.nil hq).1;subst this;simp at hle;omega
      obtain⟨vals,k1,k2,k3,k4,k5⟩:=fN.mem iu;rcases v4 iu with ⟨u1,hv⟩|⟨u1,oo,_,hv⟩
      ·obtain⟨inf,jr,atg,_,_,HF⟩:=hE.info el te HE;obtain⟨z,Bz,hz3,_⟩:=HF yv;have hzs:z.cells.size=te.ks.length:=by rw[hz3];simp
       have hbd:(c.P n).off+lo*(c.P n).sz+(hi-lo)*z.cells.size<=vals.size:=by rw[hzs,<-fm,sb,<-dK];have:(lo+(hi-lo))*(c.P n).sz<=(c.P n).cap*(c.P n).sz:=cN _ (by omega);omega
       have hr:=L5 (P:=P) (w:=w) (ty:=o.type) (of:=(c.P n).off+lo*(c.P n).sz) (n:=hi-lo) (cp:=(c.P n).cap-lo) hu jr Bz (by omega) k1 hbd (by rw[hz3];intro u qB;obtain⟨k,ta,rfl⟩:=cO.1 (by simpa using qB:u∈te.ks.map gP);cases k<;>rfl);rw[<-hv]at hr;have tO:vH σ c (c.P n).blk:=⟨n,_,hg, .inl ⟨iu,rfl⟩⟩
       rw[hzs,hz3]at hr;have hml:(madeCells (te.ks.map gP).toArray ((hi-lo)*te.ks.length)).toList.length=(hi-lo)*te.ks.length:=by simp[size_madeCells]
       have ZH:(c.P n).off+lo*(c.P n).sz+(madeCells (te.ks.map gP).toArray ((hi-lo)*te.ks.length)).toList.length<=vals.size:=by rw[hml,<-hzs];exact hbd
       have Er:=k1.setRow (jc ZH);have adv:=mn ZH;generalize zZ:iJ vals ((c.P n).off+lo*(c.P n).sz) (madeCells (te.ks.map gP).toArray ((hi-lo)*te.ks.length)).toList=new at hr Er adv;have alp:new.size=vals.size:=by rw[<-zZ];exact jc ZH
       have nU:∀b,b≠(c.P n).blk->(w.setRow (c.P n).blk new).heap[b]? =w.heap[b]? :=λb hb=>setRow_other w _ b _ hb;have hw:∀b,c.K b->(w.setRow (c.P n).blk new).heap[b]? =w.heap[b]? :=λb hk=>nU b (λe=>by subst e;exact b7.HQ tO hk);have pk:∀y∈xs.take lo++aN te.ks (hi-lo)++xs.drop hi,y.map CV.kd=te.ks:=by
        intro y hy;rw[aZ,aZ]at hy;rcases hy with (hy|hy)|hy
        ·exact lK y (jR hy)
        ·exact vB yv _ y hy
        ·exact lK y (kj hy)
       refine rK b7 di hd hg (ob':= .row el ex (xs.take lo++aN te.ks (hi-lo)++xs.drop hi)) ?_ ?_ (λzs hz=>by cases hz) (w':=w.setRow (c.P n).blk new) ⟨#[],rfl,rfl,λj agg xs hj=>by simp at hj⟩ (λn hn=>by simp[ch]at hn) (λb _ Mu=>nU b (λe=>Mu (.inl ⟨iu,e⟩))) (by simp[jd]) rfl rfl rfl (.inl (exec hr))
       ·refine⟨⟨te,HE,fm,pk⟩,⟨?_,λhn=>(by rw[iu]at hn;cases hn),λ_=>⟨new,Er,k2,k3,by rw[alp];exact k4,λi y j x km hj=> ?_⟩⟩,λ_=>⟨λi j hh=>cw hh (rS pk sA),λi j i' j' hh=>cw hh (rS pk sA)⟩⟩
        ·rw[fN.n];simp[aN];omega
        ·have hl:=ic sA (pk y (aP km)) hj;have jt:j<te.ks.length:=by rw[<-pk y (aP km),bP];exact(aT.1 hj).1
         have toR:∀u,Sc u x->(if ex=ai then XC E (w.setRow (c.P n).blk new) (c.G n) i j u x else cQ E (w.setRow (c.P n).blk new) c.K u x):=by
          intro u hu;split
          ·exact vi hl hu
          ·exact jb hl hu
         rw[E0 v1 hle Lt]at km;rw[adv,hml];by_cases hq:lo<=i/\i<hi
         ·rw[bu hq]at km;obtain⟨adw,k,hk1,rfl⟩:=sK km hj;have h2:(i-lo+1)*te.ks.length<=(hi-lo)*te.ks.length:=cN _ adw;have h3:i*te.ks.length=lo*te.ks.length+(i-lo)*te.ks.length:=by rw[<-dK];congr 1;omega
          rw[dK]at h2;rw[fm,bu (by omega)];refine⟨gP k, ?_,toR _ ?_⟩
          ·have:=kD (n:=hi-lo) adw hk1;rw[cC,<-this];congr 1;omega
          ·have Tc:=bj.1 sA k (aP hk1);cases k<;>first|exact⟨rfl,trivial⟩|exact⟨rfl,bm _⟩|cases Tc
         ·rw[bJ hq]at km;obtain⟨u,qB,GC⟩:=k5 i y j x km hj;refine⟨u, ?_,toR u ?_⟩
          ·rw[bJ ?_];exact qB;rw[fm];by_cases zY:i<lo
           ·have:(i+1)*te.ks.length<=lo*te.ks.length:=cN _ zY;rw[dK]at this;omega
           ·have:hi*te.ks.length<=i*te.ks.length:=cN _ (by omega);have h3:hi*te.ks.length=lo*te.ks.length+(hi-lo)*te.ks.length:=by rw[<-dK];congr 1;omega
            omega
          ·split at GC
           ·exact vA GC hl
           ·exact qf GC hl
       ·rintro b (hb|⟨_,i,j,hh,_⟩)
        ·exact .inl hb
        ·exact cw hh (rS pk sA)
      ·omega
    unfold N1 at h2;cases v with
    |nl=>obtain rfl:=aD h2;exact e9 b7 di hd sv (λn hn=>by simp[ch]at hn) (aj _ _ ev)
    |own n=>
     obtain⟨ob,hg,h2⟩:=Rd.bind_some h2;have hg:=cY hg;cases ob with
     |row e' ex xs=>obtain⟨te,q1,h2⟩:=Rd.bind_some h2;obtain⟨q2,h2⟩:=cj h2;obtain rfl:=aD h2;simp only[aF]at q2;have:=aQ q2.1;subst this;have ev:a.eval x=mf (c.P n):=ev;have:=main n ex xs 0 xs.length te hg (dC q1) q2.2 (by rw[ev];exact t_ b7 hg);simpa using this
     |_=>simp at h2
    |vw n lo hi=>
     obtain⟨ob,hg,h2⟩:=Rd.bind_some h2;have hg:=cY hg;cases ob with
     |row e' ex xs=>obtain⟨te,q1,h2⟩:=Rd.bind_some h2;obtain⟨q2,h2⟩:=cj h2;obtain rfl:=aD h2;simp only[aF]at q2;have:=aQ q2.1;subst this;exact main n ex xs lo hi te hg (dC q1) q2.2 ev
     |_=>simp at h2
    |_=>simp at h2
   |_=>simp at h
  ·simp at h
 ·simp at h
end
end Go.FG

namespace Go.FG
def jq(D:ax (aE×Obj)):ax (aE×dY):=D.map λd=>(cK d.1, .o d.2)
def sM(D:ax (aE×Obj))(m:aE):Prop:=∃x,(m,x)∈D
theorem U_:∀(D:ax (aE×Obj)) (σ:St),(∀m,(wr σ (jq D) (cK m)=σ (cK m)/\¬sM D m)\/∃x,(m,x)∈D/\wr σ (jq D) (cK m)= .o x)/\∀m,slot (wr σ (jq D)) m=slot σ m:=by
 intro D;induction D with
 |nil=>intro σ;exact⟨λm=> .inl ⟨rfl,λ⟨x,hx⟩=>by cases hx⟩,λm=>rfl⟩
 |cons d D ih=>
  intro σ;obtain⟨n,x⟩:=d;obtain⟨h1,h2⟩:=ih (nG σ (cK n) (.o x));refine⟨λm=> ?_,λm=> ?_⟩
  ·show(wr (nG σ (cK n) (.o x)) (jq D) (cK m)=_/\_)\/∃y,_/\wr (nG σ (cK n) (.o x)) (jq D) (cK m)=_;rcases h1 m with ⟨q1,q2⟩|⟨y,q1,q2⟩
   ·rw[nv]at q1;by_cases hm:m=n
    ·subst hm;exact .inr ⟨x,by simp,by rw[q1,bu rfl]⟩
    ·refine .inl ⟨by rw[q1,bJ hm],λ⟨y,hy⟩=> ?_⟩;rcases cq.1 hy with hy|hy
     ·cases hy;exact hm rfl
     ·exact q2 ⟨y,hy⟩
   ·exact .inr ⟨y,cM _ q1,q2⟩
  ·show slot (wr (nG σ (cK n) (.o x)) (jq D)) m=_;rw[h2,gY]
section
variable {P:cL} {E:eP} {σ:St} {a:Act} {w:bB} {c:eB} {o:eJ} {nm:aE} {e:qU}
theorem EY(b7:Ok E σ w c)(di:eG E σ a w c){o:eJ}(hd:∀d,o.dst=ah d->d<a.tmps.size){D:ax (aE×Obj)}{s:SV}{v:a_}{w':bB}{c':eB}
  (hA:iN σ c c')
  (mg:∀n x,(n,x)∈D->oe E w' c' n x)
  (ot:∀n x b,(n,x)∈D->eN c' n x b->(jf (sM D) σ c b\/w.heap.size<=b)/\¬c'.K b)
  (OB:∀n x n' x' b,(n,x)∈D->(n',x')∈D->eN c' n x b->eN c' n' x' b->n=n')
  (Ft:∀n xs,(n,Obj.box xs)∈D->∀a∈xs,∀m∈bw a,σ (cK m)≠ .iU\/sM D m)
  (hK:∀b,c.K b->c'.K b) (Rv:∀b,c'.K b->c.K b\/jf (sM D) σ c b\/w.heap.size<=b) (DG:∀b,c'.K b->b<w'.heap.size)
  (hW:∀b,b<w.heap.size->¬jf (sM D) σ c b->w'.heap[b]? =w.heap[b]?) (fm:w.heap.size<=w'.heap.size) (Ll:w'.os=w.os) (Th:w'.tape=w.tape) (S_:w'.output=w.output)
  (vK:iA E w' c' s v) (Bw:∀n∈ch s,σ (cK n)≠ .iU\/sM D n):
  Ok E (wr σ (jq D++dw o s)) w' c'/\eG E (wr σ (jq D++dw o s)) (a.put o.dst v) w' c'/\nb σ c w (wr σ (jq D++dw o s)) c' w':=by
 rw[Mb];obtain⟨d1,d2⟩:=U_ D σ;let σ1:=wr σ (jq D);obtain⟨s1,s2,s3⟩:=oz σ1 o s;have key:∀m,(wr σ1 (dw o s) (cK m)=σ (cK m)/\¬sM D m)\/∃x,(m,x)∈D/\wr σ1 (dw o s) (cK m)= .o x:=λm=>by rw[s3];exact d1 m
 have iq:∀m,(σ (cK m)≠ .iU\/sM D m)->wr σ1 (dw o s) (cK m)≠ .iU:=by
  intro m hm;rcases key m with ⟨h1,h2⟩|⟨x,_,h2⟩
  ·rw[h1];exact hm.resolve_right h2
  ·rw[h2];simp
 have get:∀m x,sM D m->wr σ1 (dw o s) (cK m)= .o x->(m,x)∈D:=by
  intro m x hm hx;rcases key m with ⟨_,h2⟩|⟨y,h1,h2⟩
  ·exact cw hm h2
  ·rw[h2]at hx;cases hx;exact h1
 have hh:=b7.change (σ':=wr σ1 (dw o s)) (w':=w') (c':=c') (sM D) (λm hm=>(key m).elim (λh=>h.1) (λ⟨x,h1,_⟩=>cw ⟨x,h1⟩ hm)) (λm hm=>iq m (.inl hm)) hA hW fm hK Rv DG
  (λm x hm ho=>mg m x (get m x hm ho)) (λm x b hm ho hf=>ot m x b (get m x hm ho) hf) (λm x m' x' b hm uQ ho tc hf uP=>OB m x m' x' b (get m x hm ho) (get m' x' uQ tc) hf uP)
  (λm xs hm ho y hy n jG=>iq n (Ft m xs (get m _ hm ho) y hy n jG)) Ll Th S_
 refine⟨hh.1, ?_,hh.2⟩
 refine di.change b7 hh.2 hA (λm hm=>iq m (.inl hm)) o v (λn jG=>by rw[s1 n jG];exact d2 n) (λd ho=>⟨hd d ho, ?_, ?_⟩)
 ·rw[s2 d ho];exact vK
 ·rw[s2 d ho];intro n jG;exact iq n (Bw n jG)
theorem Ht(b7:Ok E σ w c)(di:eG E σ a w c){o:eJ}(hd:∀d,o.dst=ah d->d<a.tmps.size){D:ax (aE×Obj)}{s:SV}{v:a_}{w':bB}{c':eB}
  (hA:iN σ c c')
  (mg:∀n x,(n,x)∈D->oe E w' c' n x)
  (ot:∀n x b,(n,x)∈D->eN c' n x b->(jf (sM D) σ c b\/w.heap.size<=b)/\¬c'.K b)
  (OB:∀n x n' x' b,(n,x)∈D->(n',x')∈D->eN c' n x b->eN c' n' x' b->n=n')
  (Ft:∀n xs,(n,Obj.box xs)∈D->∀a∈xs,∀m∈bw a,σ (cK m)≠ .iU\/sM D m)
  (hK:∀b,c.K b->c'.K b) (Rv:∀b,c'.K b->c.K b\/jf (sM D) σ c b\/w.heap.size<=b) (DG:∀b,c'.K b->b<w'.heap.size)
  (hW:∀b,b<w.heap.size->¬jf (sM D) σ c b->w'.heap[b]? =w.heap[b]?) (fm:w.heap.size<=w'.heap.size) (Ll:w'.os=w.os) (Th:w'.tape=w.tape) (S_:w'.output=w.output)
  (vK:iA E w' c' s v) (Bw:∀n∈ch s,σ (cK n)≠ .iU\/sM D n)
  (hr:(execOp a.eval o).run P w= .ok (.value v) w'):fT P E σ a w c o (jq D++dw o s):=by intro K Q hQ;obtain⟨h1,h2,h3⟩:=EY b7 di hd hA mg ot OB Ft hK Rv DG hW fm Ll Th S_ vK Bw;exact vx hr (hQ v w' c' h1 h2 h3 hA.w)
def zb(σ:St)(c:eB)(m:aA aE)(u:a_):CV->Prop
 | .l e ys=>(m=aj/\ys=[]/\u= .slice aj 0 0)\/∃nm,m=ah nm/\u=mf (c.P nm)/\σ (cK nm)= .o (.row e ai ys)
 |x=>Sc u x
def B_(L:ax aE):ax (aE×Obj):=L.map λn=>(n, .dead)
theorem zJ(L:ax aE):m7 L=jq (B_ L):=by unfold m7 jq B_;rw[kT];rfl
theorem SF{k:Ck}{x:AV}{cv:CV}{ws:ax (aE×dY)}(h:(E6 ai k x).val σ=ah (cv,ws)):
  cv.kd=k/\∃m:aA aE,ws=m7 m.toList/\(∀nm,m=ah nm->∃ob,σ (cK nm)= .o ob)/\∀u,dP E w c x u->zb σ c m u cv:=by
 have pl:plain [k]=ai->cv.kd=k/\∃m:aA aE,ws=m7 m.toList/\(∀nm,m=ah nm->∃ob,σ (cK nm)= .o ob)/\∀u,dP E w c x u->zb σ c m u cv:=by
  intro hp;have WT:cv.kd=k/\ws=[]:=by
   cases k<;>cases x<;>simp[E6,plain]at h hp<;>first
    |(obtain⟨rfl,rfl⟩:=h;exact⟨rfl,rfl⟩)
    |(split at h<;>simp at h;rename_i hk;subst hk;obtain⟨rfl,rfl⟩:=h;exact⟨rfl,rfl⟩)
  refine⟨WT.1,aj,WT.2,λnm h=>(by cases h),λu hu=> ?_⟩
  obtain⟨_,h2,h3,_⟩:=wB hp h hu;cases cv<;>first|exact h2|simp[sW]at h3
 cases k with
 |i=>exact pl rfl
 |b=>exact pl rfl
 |s=>exact pl rfl
 |o=>cases x<;>simp[E6]at h
 |l e=>
  cases x with
  |nl=>obtain⟨rfl,rfl⟩:=bN (aD h);exact⟨rfl,aj,rfl,λnm h=>(by cases h),λu hu=> .inl ⟨rfl,rfl,hu⟩⟩
  |sh e' xs=>simp[E6]at h
  |own n=>
   obtain⟨ob,hg,h⟩:=Rd.bind_some h;have hg:=cY hg;cases ob with
   |row e' sr xs=>obtain⟨h1,h⟩:=cj h;obtain⟨rfl,rfl⟩:=bN (aD h);simp only[aF]at h1;have:=aQ h1.1;subst this;obtain rfl:=h1.2;exact⟨rfl,ah n,rfl,λnm h=>(by cases h;exact⟨_,hg⟩),λu hu=> .inr ⟨n,rfl,hu,hg⟩⟩
   |eZ=>simp at h
   |_=>simp at h
  |_=>simp[E6]at h
theorem N6:∀{ks:ax Ck} {xs:ax AV} {cs:ax CV} {ws:ax (aE×dY)} (h:(wC ai ks xs).val σ=ah (cs,ws)),cs.map CV.kd=ks/\xs.length=ks.length/\∃(L:ax aE) (M:aE->aA aE),ws=m7 L/\
  (∀nm∈L,∃ob,σ (cK nm)= .o ob)/\(∀j nm,M j=ah nm->nm∈L)/\(L.Nodup->∀i j nm,M i=ah nm->M j=ah nm->i=j)/\
  ∀(vals:c_ a_),eV E w c vals xs->∀(q:aE) (x:CV),cs[q]? =ah x->∃u:a_,vals[q]? =ah u/\zb σ c (M q) u x:=by
 intro ks;induction ks with
 |nil=>
  intro xs cs ws h;cases xs with
  |nil=>obtain⟨rfl,rfl⟩:=bN (aD h);exact⟨rfl,rfl,[],λ_=>aj,rfl,λnm h=>(by cases h),λj nm h=>(by cases h),λ_ i j nm h=>(by cases h),λ_ _ q x hq=>by simp at hq⟩
  |cons=>simp[wC]at h
 |cons k ks ih=>
  intro xs cs ws h;cases xs with
  |nil=>simp[wC]at h
  |cons x xs=>
   obtain⟨⟨cv,w1⟩,h1,h⟩:=Rd.bind_some h;obtain⟨⟨cr,w2⟩,h2,h⟩:=Rd.bind_some h;obtain⟨rfl,rfl⟩:=bN (aD h);obtain⟨e1,m,rfl,e2,e3⟩:=SF (E:=E) (w:=w) (c:=c) h1;obtain⟨i1,i2,L,M,rfl,i4,i5,i6,i7⟩:=ih h2;refine⟨by simp[e1,i1],by simp[i2],m.toList++L,λj=>match j with|0=>m|j+1=>M j,by simp[m7], ?_, ?_, ?_, ?_⟩
   ·intro nm hnm;rcases aZ.1 hnm with h|h
    ·exact e2 nm (by simpa using h)
    ·exact i4 nm h
   ·intro j nm hj;cases j with
    |zero=>exact bR _ (by simpa using hj)
    |succ j=>exact bH _ (i5 j nm hj)
   ·intro Fv i j nm hi hj;obtain⟨n1,n2,n3⟩:=dV.1 Fv;cases i with
    |zero=>
     cases j with
     |zero=>rfl
     |succ j=>exact cw rfl (n3 nm (by simpa using hi) nm (i5 j nm hj))
    |succ i=>
     cases j with
     |zero=>exact cw rfl (n3 nm (by simpa using hj) nm (i5 i nm hi))
     |succ j=>rw[i6 n2 i j nm hi hj]
   ·intro vals hv q y hq;cases q with
    |zero=>cases hq;obtain⟨u,hu,ha⟩:=hv.2 0 x rfl;exact⟨u,hu,e3 u ha⟩
    |succ q=>
     have OD:eV E w c (vals.extract 1 vals.size) xs:=by
      refine⟨by simp;have:=hv.1;simp at this;omega,λj b hj=> ?_⟩
      obtain⟨u,hu,hb⟩:=hv.2 (j+1) b hj;refine⟨u, ?_,hb⟩
      have:=(dF.1 hu).1;rw[dL,bu (by omega),il];exact hu
     obtain⟨u,r1,r2⟩:=i7 _ OD q y hq;refine⟨u, ?_,r2⟩
     rw[dL]at r1;split at r1
     ·rw[il];exact r1
     ·cases r1
theorem He{k:Ck}{x:AV}{cv:CV}{ws:ax (aE×dY)}(b7:Ok E σ w c)(h:(E6 ak k x).val σ=ah (cv,ws)):cv.kd=k/\ws=[]/\∀u,dP E w c x u->cQ E w c.K u cv:=by
 have pl:plain [k]=ai->cv.kd=k/\ws=[]/\∀u,dP E w c x u->cQ E w c.K u cv:=by
  intro hp;have WT:cv.kd=k/\ws=[]:=by
   cases k<;>cases x<;>simp[E6,plain]at h hp<;>first
    |(obtain⟨rfl,rfl⟩:=h;exact⟨rfl,rfl⟩)
    |(split at h<;>simp at h;rename_i hk;subst hk;obtain⟨rfl,rfl⟩:=h;exact⟨rfl,rfl⟩)
  refine⟨WT.1,WT.2,λu hu=> ?_⟩
  obtain⟨_,h2,h3,_⟩:=wB hp h hu;exact jb h3 h2
 cases k with
 |i=>exact pl rfl
 |b=>exact pl rfl
 |s=>exact pl rfl
 |o=>cases x<;>simp[E6]at h
 |l e=>
  cases x with
  |nl=>obtain⟨rfl,rfl⟩:=bN (aD h);exact⟨rfl,rfl,λu hu=>by rw[show u=_ from hu];exact .nl _ _ _⟩
  |sh e' xs=>obtain⟨h1,h⟩:=cj h;obtain⟨rfl,rfl⟩:=bN (aD h);simp only[aF]at h1;have:=aQ h1.1;subst this;exact⟨rfl,rfl,λu hu=>hu⟩
  |own n=>
   obtain⟨ob,hg,h⟩:=Rd.bind_some h;have hg:=cY hg;cases ob with
   |row e' sr xs=>obtain⟨h1,h⟩:=cj h;simp at h
   |eZ e' xs=>
    obtain⟨h1,h⟩:=cj h;obtain⟨rfl,rfl⟩:=bN (aD h);simp only[aF]at h1;have:=aQ h1.1;subst this;refine⟨rfl,rfl,λu hu=> ?_⟩
    have hu:u=mf (c.P n):=hu;rw[hu];exact(b7.obj n _ hg).1
   |_=>simp at h
  |_=>simp[E6]at h
theorem E7(b7:Ok E σ w c):∀{ks:ax Ck} {xs:ax AV} {cs:ax CV} {ws:ax (aE×dY)} (h:(wC ak ks xs).val σ=ah (cs,ws)),cs.map CV.kd=ks/\xs.length=ks.length/\ws=[]/\
  ∀(vals:c_ a_),eV E w c vals xs->∀(q:aE) (x:CV),cs[q]? =ah x->∃u:a_,vals[q]? =ah u/\cQ E w c.K u x:=by
 intro ks;induction ks with
 |nil=>
  intro xs cs ws h;cases xs with
  |nil=>obtain⟨rfl,rfl⟩:=bN (aD h);exact⟨rfl,rfl,rfl,λ_ _ q x hq=>by simp at hq⟩
  |cons=>simp[wC]at h
 |cons k ks ih=>
  intro xs cs ws h;cases xs with
  |nil=>simp[wC]at h
  |cons x xs=>
   obtain⟨⟨cv,w1⟩,h1,h⟩:=Rd.bind_some h;obtain⟨⟨cr,w2⟩,h2,h⟩:=Rd.bind_some h;obtain⟨rfl,rfl⟩:=bN (aD h);obtain⟨e1,e2,e3⟩:=He b7 h1;obtain⟨i1,i2,i3,i7⟩:=ih h2;refine⟨by simp[e1,i1],by simp[i2],by rw[e2,i3];rfl,λvals hv q y hq=> ?_⟩
   cases q with
   |zero=>cases hq;obtain⟨u,hu,ha⟩:=hv.2 0 x rfl;exact⟨u,hu,e3 u ha⟩
   |succ q=>
    have OD:eV E w c (vals.extract 1 vals.size) xs:=by
     refine⟨by simp;have:=hv.1;simp at this;omega,λj b hj=> ?_⟩
     obtain⟨u,hu,hb⟩:=hv.2 (j+1) b hj;refine⟨u, ?_,hb⟩
     have:=(dF.1 hu).1;rw[dL,bu (by omega),il];exact hu
    obtain⟨u,r1,r2⟩:=i7 _ OD q y hq;refine⟨u, ?_,r2⟩
    rw[dL]at r1;split at r1
    ·rw[il];exact r1
    ·cases r1
end
end Go.FG

namespace Go.FG
section
variable {P:cL} {E:eP} {σ:St} {a:Act} {w:bB} {c:eB} {o:eJ} {nm:aE} {e:qU}
structure Inv (E:eP) (σ:St) (w:bB) (c:eB) (ex:aW) (ks:ax Ck) (vals:c_ a_) (z:aU) (N:aE->aE->aA aE) (S:ax aE):Prop where
 size:vals.size=z.length*ks.length
 sh:∀y∈z,y.map CV.kd=ks
 inS:∀i j nm,N i j=ah nm->nm∈S
 inj:∀i j i' j' nm,N i j=ah nm->N i' j'=ah nm->i=i'/\j=j'
 cell:∀(i:aE) (y:ax CV) (j:aE) (x:CV),z[i]? =ah y->y[j]? =ah x->∃u:a_,vals[i*ks.length+j]? =ah u/\(if ex=ai then zb σ c (N i j) u x else cQ E w c.K u x)
theorem Inv.set{ex:aW}{ks:ax Ck}{vals:c_ a_}{z:aU}{N:aE->aE->aA aE}{S:ax aE}(h:Inv E σ w c ex ks vals z N S){i0:aE}(hi:i0<z.length){cs:ax CV}{vs:c_ a_}(hk:cs.map CV.kd=ks)(Tj:vs.size=ks.length)
  {M:aE->aA aE} {L:ax aE} (hM:∀j nm,M j=ah nm->nm∈L) (hMi:∀i j nm,M i=ah nm->M j=ah nm->i=j) (hd:∀nm∈L,nm∉S)
  (hc:∀(q:aE) (x:CV),cs[q]? =ah x->∃u:a_,vs[q]? =ah u/\(if ex=ai then zb σ c (M q) u x else cQ E w c.K u x)):
  Inv E σ w c ex ks (iJ vals (i0*ks.length) vs.toList) (z.set i0 cs) (λi j=>if i=i0 then M j else N i j) (S++L):=by
 have h1:(i0+1)*ks.length<=z.length*ks.length:=cN _ hi;rw[dK]at h1;have hb:i0*ks.length+vs.toList.length<=vals.size:=by rw[h.size,show vs.toList.length=ks.length from Tj];omega
 refine⟨by rw[jc hb,c7];exact h.size, ?_, ?_, ?_, ?_⟩
 ·intro y hy;rcases ly hy with hy|hy
  ·exact h.sh y hy
  ·rw[hy];exact hk
 ·intro i j nm hn;replace hn:(if i=i0 then M j else N i j)=ah nm:=hn;split at hn
  ·exact bH _ (hM j nm hn)
  ·exact bR _ (h.inS i j nm hn)
 ·intro i j i' j' nm hn jG;replace hn:(if i=i0 then M j else N i j)=ah nm:=hn;replace jG:(if i'=i0 then M j' else N i' j')=ah nm:=jG;split at hn
  ·rename_i e1;split at jG
   ·rename_i e2;exact⟨e1.trans e2.symm,hMi j j' nm hn jG⟩
   ·exact cw (h.inS i' j' nm jG) (hd nm (hM j nm hn))
  ·split at jG
   ·exact cw (h.inS i j nm hn) (hd nm (hM j' nm jG))
   ·exact h.inj i j i' j' nm hn jG
 ·intro i y j x hy hx;rw[Mh]at hy;rw[mn hb,show vs.toList.length=ks.length from Tj];by_cases Fs:i0=i
  ·subst Fs;rw[bu rfl,bu hi]at hy;cases hy;have hj:j<ks.length:=by rw[<-hk,bP];exact(aT.1 hx).1
   obtain⟨u,hu,hr⟩:=hc j x hx;refine⟨u, ?_,by simpa using hr⟩
   rw[bu (by omega),cC,<-hu];congr 1;omega
  ·rw[bJ Fs]at hy;obtain⟨u,hu,hr⟩:=h.cell i y j x hy hx;have hj:j<ks.length:=by rw[<-h.sh y (aP hy),bP];exact(aT.1 hx).1
   refine⟨u, ?_,by rw[show(if i=i0 then M j else N i j)=N i j from bJ (λe=>Fs e.symm)];exact hr⟩
   rw[bJ ?_];exact hu;rcases Mm Fs with ji|hgt
   ·have:(i0+1)*ks.length<=i*ks.length:=cN _ ji;rw[dK]at this;omega
   ·have:(i+1)*ks.length<=i0*ks.length:=cN _ hgt;rw[dK]at this;omega
theorem K2(b7:Ok E σ w c)(di:eG E σ a w c){ex:aW}{ks:ax Ck}(mh:0<ks.length):∀(ps:ax (aE×c5)) (z z':aU) (ws:ax (aE×dY)),(Hd ex ks ps z).val σ=ah (z',ws)->
  z'.length=z.length/\∃L,ws=m7 L/\(∀nm∈L,∃ob,σ (cK nm)= .o ob)/\∀vals N S,(S++L).Nodup->Inv E σ w c ex ks vals z N S->
   ∃jv N',n6 (λi=>ah (i*ks.length,ks.length)) vals (ps.map λ(i,x)=>(i,a.eval x))=ah jv/\Inv E σ w c ex ks jv z' N' (S++L):=by
 intro ps;induction ps with
 |nil=>intro z z' ws h;obtain⟨rfl,rfl⟩:=bN (aD h);exact⟨rfl,[],rfl,λnm h=>(by cases h),λvals N S _ hi=>⟨vals,N,rfl,by rw[dH];exact hi⟩⟩
 |cons p r ih=>
  obtain⟨i0,x⟩:=p;intro z z' ws h;obtain⟨v,h1,h⟩:=Rd.bind_some h;obtain⟨Ta,hkv⟩:=kX di h1;cases v with
  |v g ys=>
   obtain⟨h2,h⟩:=cj h;have h2:=cu h2;obtain⟨⟨cs,w1⟩,h3,h⟩:=Rd.bind_some h;obtain⟨⟨z1,w2⟩,h4,h⟩:=Rd.bind_some h;obtain⟨rfl,rfl⟩:=bN (aD h);have nT:=o4.cells Ta
   have E6:cs.map CV.kd=ks/\ys.length=ks.length/\∃(L:ax aE) (M:aE->aA aE),w1=m7 L/\(∀nm∈L,∃ob,σ (cK nm)= .o ob)/\(∀j nm,M j=ah nm->nm∈L)/\(L.Nodup->∀i j nm,M i=ah nm->M j=ah nm->i=j)/\
     ∀(q:aE) (x:CV),cs[q]? =ah x->∃u:a_,(a.eval ‹c5›).cells[q]? =ah u/\(if ex=ai then zb σ c (M q) u x else cQ E w c.K u x):=by
    cases ex with
    |true=>obtain⟨q1,q2,L,M,q3,q4,q5,q6,q7⟩:=N6 (E:=E) (w:=w) (c:=c) h3;exact⟨q1,q2,L,M,q3,q4,q5,q6,λq x hq=>by simpa using q7 _ nT q x hq⟩
    |false=>obtain⟨q1,q2,q3,q4⟩:=E7 b7 h3;exact⟨q1,q2,[],λ_=>aj,q3,λnm h=>(by cases h),λj nm h=>(by cases h),λ_ i j nm h=>(by cases h),λq x hq=>by simpa using q4 _ nT q x hq⟩
   obtain⟨q1,q2,L,M,rfl,q4,q5,q6,q7⟩:=E6;obtain⟨i1,L2,rfl,i3,i4⟩:=ih _ _ _ h4;rw[c7]at i1;refine⟨i1,L++L2,by simp[m7],λnm hn=>(aZ.1 hn).elim (q4 nm) (i3 nm),λvals N S Fv hinv=> ?_⟩
   have adF:((S++L)++L2).Nodup:=by rw[cf];exact Fv
   obtain⟨n1,n2,n3⟩:=dV.1 adF;obtain⟨m1,m2,m3⟩:=dV.1 n1;have Tj:(a.eval x).cells.size=ks.length:=by rw[nT.1,q2]
   have ady:=hinv.set (i0:=i0) (by omega) q1 Tj q5 (q6 m2) (λnm hn hs=>m3 nm hs nm hn rfl) q7;obtain⟨jv,N',f1,f2⟩:=i4 _ _ _ adF ady;refine⟨jv,N', ?_,by rw[<-cf];exact f2⟩
   have h1:(i0+1)*ks.length<=z.length*ks.length:=cN _ h2;rw[dK,<-hinv.size]at h1;simp only[eK,n6];rw[bJ (by simp[Tj];omega)];have:=Cg (off:=i0*ks.length) (vs:=(a.eval x).cells) (cells:=vals) (by omega);rw[<-f1];exact kl (λq=>n6 (λi=>ah (i*ks.length,ks.length)) q _) this
  |jh=>simp at h
  |un=>simp at h
theorem AF{t el n:aE}{inf:AZ}{z:a_}{ks:ax Ck}{ps:c_ (aE×a_)}{cells:c_ a_}(hu:P.underlying t=ah (.slice el))(hi:P.info? el=ah inf)(fm:inf.size=ks.length)(hz:inf.zero=ah z)(hzc:z.cells=(ks.map gP).toArray)
  (h24:n*ks.length<=16777216) (hf:n6 (λi=>ah (i*ks.length,ks.length)) (madeCells (ks.map gP).toArray (n*ks.length)) ps.toList=ah cells):
  (wY t n ps).run P w= .ok (.slice (ah (ad w.heap.size 0)) n n) (w.alloc (.cells cells el)):=by
 have akK:¬(n*ks.length>2^24):=by omega
 by_cases h0:n*ks.length=0
 ·have e0:(Yq (n*ks.length)).map (λi=>(#[]:c_ a_)[i%(#[]:c_ a_).size]!)=madeCells (ks.map gP).toArray (n*ks.length):=by rw[h0];simp[madeCells,Array.range_zero']
  simp only[wY,b8,run_underlying hu,bn,sizeOf,typeInfo,program,nA,hi,fm,cB,h0,if_true,lW];rw[h0]at e0 hf;rw[e0,hf];simp only[newRow,newObj,b8,nA,bn,cB];rfl
 ·have e0:(Yq (n*ks.length)).map (λi=>z.cells[i%z.cells.size]!)=madeCells (ks.map gP).toArray (n*ks.length):=by rw[hzc];rfl
  simp only[wY,b8,run_underlying hu,bn,sizeOf,typeInfo,program,nA,hi,fm,akK,if_false,cB,h0,zeroValue,hz,lW];rw[e0,hf];simp only[newRow,newObj,b8,nA,bn,cB];rfl
theorem pr:∀{l:ax aE},rO l=ai->l.Nodup
 |[],_=> .nil
 |n::r,h=>by
  simp only[rO,aF,dt]at h;refine jC.2 ⟨λhm=> ?_,pr h.2⟩;have:lx n r=true:=by
   have:=h.1;clear h;induction r with
   |nil=>cases hm
   |cons m r ih=>
    rcases cq.1 hm with rfl|hm
    ·simp[lx]
    ·simp only[lx,gL]at this⊢;rw[ih hm this.2];simp
  rw[this]at h;cases h.1
theorem qj{α β:Type}{f:α->β}:∀{l:ax α},(l.map f).Nodup->l.Nodup
 |[],_=> .nil
 |x::l,h=>by
  rw[eK,jC]at h;exact jC.2 ⟨λhm=>h.1 (cO.2 ⟨x,hm,rfl⟩),qj h.2⟩
theorem SS{ks:ax Ck}(hf:flat E ks=ai){e:aE}(hm:Ck.l e∈ks):∃t,E.ty e=ah t/\plain t.ks=true:=by
 have h:=bj.1 hf _ hm;replace h:(match E.ty e with|some ti=>plain ti.ks|none=>ak)=true:=h;cases ht:E.ty e with
 |none=>rw[ht]at h;cases h
 |some t=>rw[ht]at h;exact⟨t,rfl,h⟩
theorem LZ(b7:Ok E σ w c){n e:aE}{ex:aW}{xs:aU}(hg:σ (cK n)= .o (.row e ex xs)){t:TI}(ht:E.ty e=ah t)(hp:plain t.ks=ai):
  (c.P n).sz=t.ks.length/\(∀y∈xs,y.map CV.kd=t.ks)/\im w (c.P n) xs (λ_ _ u x=>Sc u x):=by
 obtain⟨⟨t2,q1,q2,q3⟩,q4,_⟩:=b7.obj n _ hg;obtain rfl:t=t2:=aD (ht.symm.trans q1);refine⟨q2,q3,q4.frame (λ_=>rfl) (λi j y x u hi hj hr=> ?_)⟩
 have hl:=ic hp (q3 y (aP hi)) hj;split at hr
 ·exact vA hr hl
 ·exact qf hr hl
theorem NY(b7:Ok E σ w c){ks:ax Ck}(hf:flat E ks=ai){m:aA aE}{G:aE->aE->Pl}{i j:aE}(hG:G i j=match m with|some n=>c.P n|none=>HN E ks i j){u:a_}{x:CV}(hx:ks[j]? =ah x.kd){w':bB}(hw:∀b,b<w.heap.size->(∃n,m=ah n/\b=(c.P n).blk)->w'.heap[b]? =w.heap[b]?)(h:zb σ c m u x):XC E w' G i j u x:=by
 cases x with
 |l e ys=>
  obtain⟨t,ht,hp⟩:=SS hf (aP hx);rcases h with ⟨rfl,rfl,rfl⟩|⟨n,rfl,rfl,hg⟩
  ·refine⟨by rw[hG];rfl,t,ht,hp, ?_,λy hy=>(by cases hy),⟨by rw[hG];rfl,λ_=>⟨rfl,by rw[hG];rfl⟩,λhn=>by rw[hG]at hn;cases hn⟩⟩
   rw[hG];show(match ks[j]? with|some (.l e)=>(match E.ty e with|some t=>t.ks.length|none=>0)|_=>0)=_;rw[hx];simp only[CV.kd,ht]
  ·obtain⟨q1,q2,q3⟩:=LZ b7 hg ht hp;refine⟨by rw[hG],t,ht,hp,by rw[hG];exact q1,q2, ?_⟩
   rw[hG];refine q3.frame (λhn=>hw _ (vH.lt b7 ⟨n,_,hg, .inl ⟨hn,rfl⟩⟩) ⟨n,rfl,rfl⟩) (λ_ _ _ _ _ _ _ h=>h)
 |i=>exact h
 |b=>exact h
 |s=>exact h
theorem BC(hE:dS P E)(b7:Ok E σ w c)(di:eG E σ a w c)(hd:∀d,o.dst=ah d->d<a.tmps.size){t n:aE}{ps:c_ (aE×c5)}(ho:o.op= .buildSlice t n ps)(h:(kM E nm o).val σ=ah e)(hc:e.cond=ai):fT P E σ a w c o e.ws:=by
 simp only[kM,ho]at h;obtain⟨ti,h1,h⟩:=Rd.bind_some h;have h1:=dC h1;split at h
 ·rename_i el sw Bw;obtain⟨te,h2,h⟩:=Rd.bind_some h;have h2:=dC h2;obtain⟨yv,h⟩:=cj h;obtain⟨ex0,_,h⟩:=Rd.bind_some h;obtain⟨⟨xs,ws⟩,h3,h⟩:=Rd.bind_some h;obtain⟨u,h4,h⟩:=Rd.bind_some h;obtain⟨hf,ji⟩:=jF h4;obtain rfl:=aD h;simp only[aF]at hc;obtain⟨h24,Fv⟩:=hc;have h24:=cu h24;have hu:=nP hE h1 sw Bw;obtain⟨inf,hi,fm,_,mh,hz⟩:=hE.info el te h2;obtain⟨z,HF,Bz,_⟩:=hz yv;have Mt:(ex0&&flat E te.ks)=ai->flat E te.ks=true:=λh=>by simp only[aF]at h;exact h.2
  generalize (ex0&&flat E te.ks)=ex at h3 Mt⊢;obtain⟨hlen,L,rfl,hL,OA⟩:=K2 (c:=c) b7 di mh ps.toList _ _ _ h3;have Fv:L.Nodup:=by have:=pr Fv;unfold m7 at this;rw[kT]at this;exact qj this
  obtain⟨vals,N,ads,hinv⟩:=OA (madeCells (te.ks.map gP).toArray (n*te.ks.length)) (λ_ _=>aj) [] (by simpa using Fv)
   ⟨by rw[size_madeCells];simp[aN],vB yv n,λi j nm h=>(by cases h),λi j i' j' nm h=>(by cases h),λi y j x hy hx=>by
    obtain⟨gO,k,hk,rfl⟩:=sK hy hx;refine⟨gP k,kD gO hk, ?_⟩
    have hko:=bj.1 yv k (aP hk);split
    ·cases k with
     |l e=>exact .inl ⟨rfl,rfl,rfl⟩
     |o=>cases hko
     |s=>exact⟨rfl,bm _⟩
     |_=>exact⟨rfl,trivial⟩
    ·exact Iv hko⟩
  rw[fF]at hinv;have hr:=AF (P:=P) (w:=w) (n:=n) (ps:=ps.map λ(i,x)=>(i,a.eval x)) hu hi fm HF Bz h24 (by rw[xQ];exact ads);have Lt:xs.length=n:=by rw[hlen];simp[aN]
  let g:aE->aE->Pl:=λi j=>match N i j with|some m=>c.P m|none=>HN E te.ks i j
  let c':eB:=⟨λm=>if m=nm then⟨ak,w.heap.size,0,n,n,te.ks.length⟩else c.P m,λm=>if m=nm then g else c.G m,c.K⟩
  have hP:c'.P nm=⟨ak,w.heap.size,0,n,n,te.ks.length⟩:=bu rfl;have hG:c'.G nm=g:=bu rfl;have hA:iN σ c c':=λm hm=>by
   have:m≠nm:=by rintro rfl;rcases hm with h|h;exact h hf;omega
   exact⟨bJ this,bJ this⟩
  have gN:∀i j,(g i j).nil=ak->∃m ob,N i j=ah m/\g i j=c.P m/\m∈L/\σ (cK m)= .o ob:=by
   intro i j hn;cases hm:N i j with
   |none=>simp only[g,hm]at hn;cases hn
   |some m=>obtain⟨ob,mg⟩:=hL m (hinv.inS i j m hm);exact⟨m,ob,rfl,by simp only[g,hm],hinv.inS i j m hm,mg⟩
  have inn:∀i j,ex=ai->fD xs i j->(g i j).nil=ak->∃m el2 ys,N i j=ah m/\g i j=c.P m/\m∈L/\σ (cK m)= .o (.row el2 ai ys)/\(c.P m).nil=false:=by
   rintro i j hex ⟨y,x,hy,hx,hl⟩ hn;obtain⟨m,ob,q1,q2,q3,q4⟩:=gN i j hn;obtain⟨u,_,hr⟩:=hinv.cell i y j x hy hx;rw[bu hex,q1]at hr;cases x with
   |l e2 ys=>
    rcases hr with ⟨h,_⟩|⟨m',h,_,hg⟩
    ·cases h
    ·cases h;exact⟨m,e2,ys,q1,q2,q3,hg,by rw[<-q2];exact hn⟩
   |i=>simp[sW]at hl
   |b=>simp[sW]at hl
   |s=>simp[sW]at hl
  have OG:∀b,b<w.heap.size->(w.alloc (.cells vals el)).heap[b]? =w.heap[b]? :=λb hb=>heap_alloc_old w _ b hb;have mem:∀m x,(m,x)∈B_ L++[(nm,Obj.row el ex xs)]->(m∈L/\x= .dead)\/(m=nm/\x= .row el ex xs):=by
   intro m x hm;rcases aZ.1 hm with hm|hm
   ·unfold B_ at hm;obtain⟨q,hq,h⟩:=cO.1 hm;cases h;exact .inl ⟨hq,rfl⟩
   ·rw[aY]at hm;cases hm;exact .inr ⟨rfl,rfl⟩
  have hws:m7 L++(cK nm,dY.o (.row el ex xs))::dw o (.v ak [.own nm])=jq (B_ L++[(nm,Obj.row el ex xs)])++dw o (.v ak [.own nm]):=by rw[zJ];unfold jq;simp
  show fT P E σ a w c o (m7 L++(cK nm,dY.o (.row el ex xs))::dw o (.v ak [.own nm]));rw[hws];refine Ht b7 di hd (c':=c') (w':=w.alloc (.cells vals el)) (v:= .slice (ah (ad w.heap.size 0)) n n) hA ?_ ?_ ?_ ?_ (λ_ h=>h) (λ_ h=> .inl h) (λb hb=>gF (b7.lt b hb) (by simp)) (λb hb _=>OG b hb) (by simp) rfl rfl rfl ?_ ?_ ?_
  ·intro m x hm;rcases mem m x hm with ⟨_,rfl⟩|⟨rfl,rfl⟩
   ·trivial
   ·refine⟨⟨te,h2,by rw[hP],hinv.sh⟩, ?_,λhex=> ?_⟩
    ·rw[hP,hG];refine⟨Lt.symm,λhn=>(by cases hn),λ_=>⟨vals,oX.alloc w _ el,cm _, ?_, ?_,λi y j x hy hx=> ?_⟩⟩
     ·show n<=2^63-1;have:n*1<=n*te.ks.length:=Nat.mul_le_mul_left _ mh;omega
     ·rw[hinv.size,Lt];simp
     ·obtain⟨u,qB,GC⟩:=hinv.cell i y j x hy hx;refine⟨u,by simpa using qB, ?_⟩
      split at GC
      ·rename_i hex;rw[bu hex];refine NY b7 (Mt hex) rfl ?_ (λb hb _=>OG b hb) GC;rw[<-hinv.sh y (aP hy),bz,hx];rfl
      ·rename_i hex;rw[bJ hex];exact GC.frame (λb hb=>OG b (b7.lt b hb)) (λ_ h=>h)
    ·rw[hP,hG];refine⟨λi j hh hn _=> ?_,λi j i' j' hh ug hn jG hbk=> ?_⟩
     ·obtain⟨m',e2,ys,_,q2,_,q4,q5⟩:=inn i j hex hh hn;have:(c.P m').blk<w.heap.size:=vH.lt b7 ⟨m',_,q4, .inl ⟨q5,rfl⟩⟩;rw[q2];show(c.P m').blk≠w.heap.size;omega
     ·obtain⟨m1,e1,y1,p1,p2,_,p4,p5⟩:=inn i j hex hh hn;obtain⟨m2,e2,y2,r1,r2,_,r4,r5⟩:=inn i' j' hex ug jG;rw[p2,r2]at hbk;have:=b7.sep m1 _ m2 _ _ p4 r4 (.inl ⟨p5,rfl⟩) (.inl ⟨r5,hbk⟩);subst this;exact hinv.inj i j i' j' m1 p1 r1
  ·intro m x b hm ot;rcases mem m x hm with ⟨_,rfl⟩|⟨rfl,rfl⟩
   ·exact ot.elim
   ·rcases ot with ⟨_,rfl⟩|⟨hex,i,j,hh,hn,rfl⟩
    ·rw[hP];exact⟨.inr (cm _),λhk=>by have:=b7.lt _ hk;exact cw this (bk _)⟩
    ·rw[hG]at hn⊢;obtain⟨m',e2,ys,_,q2,q3,q4,q5⟩:=inn i j hex hh hn;rw[q2];refine⟨.inl ⟨m',_,⟨.dead,bR _ (cO.2 ⟨m',q3,rfl⟩)⟩,q4, .inl ⟨q5,rfl⟩⟩,b7.kk m' _ _ q4 (.inl ⟨q5,rfl⟩)⟩
  ·intro m x m' x' b hm uQ ot Ot;rcases mem m x hm with ⟨_,rfl⟩|⟨rfl,rfl⟩
   ·exact ot.elim
   ·rcases mem m' x' uQ with ⟨_,rfl⟩|⟨rfl,rfl⟩
    ·exact Ot.elim
    ·rfl
  ·intro m zs hm;rcases mem m _ hm with ⟨_,h⟩|⟨_,h⟩<;>cases h
  ·show _=mf (c'.P nm);rw[hP];rfl
  ·intro m hm;have:m=nm:=by simpa [ch,bw]using hm
   subst this;exact .inr ⟨_,bH _ (aY.2 rfl)⟩
  ·unfold execOp;rw[ho];exact ia hr
 ·simp at h
end
end Go.FG

namespace Go.FG
section
variable {P:cL}
def kK(elem:TypeId)(size:aE)(base:aA Addr)(sLen sCap:aE)(s x:a_)(aN:aW)(n:aE)(ER:Sem (c_ a_)):Sem a_:=
 if sLen+n<=sCap then do
  let new<-ER
  if let ah a:=base then storeCells (a.add (sLen*size)) new.toList
  pure (.slice base (sLen+n) sCap)
 else do
  if((sLen+n:aE):az)>ao.max/\(aN\/(<-typeInfo elem).bytes=0)then runtimePanic (.error "growslice: len out of range")
  if Ej (sLen+n) sCap*(<-typeInfo elem).bytes>2^48 then(if aN then runtimePanic (.error "growslice: len out of range")else do
   if !(<-Builtin.mayShare size sLen n base x)then mark .noRoom
   unsupported (.resourceLimit "append: a slice or a string whose bytes no memory bears"))
  let HM<-choose (.appendCap (sLen+n) sCap elem)
  askRoom (HM*(<-typeInfo elem).bytes)
  let old<-fY size sLen s
  let new<-ER
  let rest:=fE (<-zeroValue elem).cells (HM-(sLen+n))
  pure (.slice (ah (<-newRow elem (old++new++rest))) (sLen+n) HM)
theorem wO{w:bB}{t u ty el:aE}{inf:AZ}(hu:P.underlying t=ah (.slice el))(hi:P.info? el=ah inf)(hd:(∃e',P.underlying u=ah (.slice e'))\/P.underlying u=ah .string)
  {base:aA Addr} {sLen sCap m:aE} {x:a_} (hl:(sa x).run P w= .ok m w):
  (kg #[t,u] ty #[.slice base sLen sCap,x]).run P w=(kK el inf.size base sLen sCap (.slice base sLen sCap) x ak m (fY inf.size m x)).run P w:=by
 have hs:(sizeOf el).run P w= .ok inf.size w:=by simp[sizeOf,typeInfo,hi]
 rcases hd with ⟨e',hd⟩|hd<;>
  (simp only[kg,gg,qI,dy,b8,run_underlying hu,run_underlying hd,bn,hs,cB,hl,cU,if_false,bS,if_true,false_or,lW]
   unfold kK
   simp only[lW,b8,cU,if_false,false_or,cB]
   try rfl)
theorem AD{w:bB}{t u ty el:aE}{inf:AZ}(hu:P.underlying t=ah (.slice el))(hi:P.info? el=ah inf){k:l_}(hd:P.underlying u=ah (.int k))
  {base:aA Addr} {sLen sCap m:aE} {x:a_} {k':l_} (hx:x= .int k' (m:az)) (h1:m<=9223372036854775807) (h2:m*inf.bytes<=140737488355328):
  (kg #[t,u] ty #[.slice base sLen sCap,x]).run P w=(kK el inf.size base sLen sCap (.slice base sLen sCap) x ai m (if m*inf.size=0 then pure #[]else do pure (fE (<-zeroValue el).cells m))).run P w:=by
 have hs:(sizeOf el).run P w= .ok inf.size w:=by simp[sizeOf,typeInfo,hi]
 have ht:∀W,(typeInfo el).run P W= .ok inf W:=λW=>by simp[typeInfo,hi]
 have hw:ao.wrap (m:az)=m:=by rw[oE];omega
 have c1:¬((m:az)<0):=by omega
 have c2:¬((m:az)*(inf.bytes:az)>2^48):=by
  have a2:((m*inf.bytes:aE):az)<=140737488355328:=by generalize m*inf.bytes=q at h2;omega
  rw[R4]at a2;generalize (m:az)*(inf.bytes:az)=q at a2;have:(2:az)^48=281474976710656:=by decide
  omega
 subst hx;have ha:(asInt (.int k' (m:az))).run P w= .ok (m:az) w:=by simp[asInt,asIntOf]
 simp only[kg,gg,qI,dy,b8,run_underlying hu,run_underlying hd,bn,hs,ht,ha,hw,c1,c2,cB,if_false,a9,cU,if_true,lW,dJ];unfold kK;simp only[lW,b8,if_true,true_or,and_true,cB,ht,bn];try rfl
theorem BI{w w':bB}{el size sLen sCap m:aE}{a:Addr}{s x:a_}{zs:aW}{app:Sem (c_ a_)}{news:ax a_}(ha:app.run P w= .ok news.toArray w)(h:sLen+m<=sCap)(Lq:(storeCells (a.add (sLen*size)) news).run P w= .ok () w'):
  (kK el size (ah a) sLen sCap s x zs m app).run P w= .ok (.slice (ah a) (sLen+m) sCap) w':=by unfold kK;rw[bu h];simp only[b8,ha,bn,Lq,cB]
theorem BH{w:bB}{el size sCap:aE}{s x:a_}{zs:aW}{app:Sem (c_ a_)}{news:ax a_}(ha:app.run P w= .ok news.toArray w):
  (kK el size aj 0 sCap s x zs 0 app).run P w= .ok (.slice aj 0 sCap) w:=by unfold kK;rw[bu (bm _)];simp only[b8,ha,bn,cB]
theorem BG{w:bB}{el size sLen sCap m:aE}{base:aA Addr}{s x:a_}{zs:aW}{app:Sem (c_ a_)}{tW news:ax a_}{inf:AZ}{z:a_}(hi:P.info? el=ah inf)(hz:inf.zero=ah z)
  (h:¬sLen+m<=sCap) (h63:sLen+m<=9223372036854775807) (h48:(sLen+m)*inf.bytes<=140737488355328)
  (ho:(fY size sLen s).run P w.drew= .ok tW.toArray w.drew) (ha:app.run P w.drew= .ok news.toArray w.drew):
  (kK el size base sLen sCap s x zs m app).run P w= .ok (.slice (ah (ad w.heap.size 0)) (sLen+m) (grownCap w (sLen+m) sCap el))
   (w.drew.alloc (.cells (tW.toArray++news.toArray++fE z.cells (grownCap w (sLen+m) sCap el-(sLen+m))) el)):=by
 have ht:∀W,(typeInfo el).run P W= .ok inf W:=λW=>by simp[typeInfo,hi]
 have hzv:∀W,(zeroValue el).run P W= .ok z W:=λW=>by simp[zeroValue,typeInfo,hi,hz]
 have c1:¬(((sLen+m:aE):az)>ao.max/\(zs=ai\/inf.bytes=0)):=by
  have:ao.max=9223372036854775807:=by decide
  rintro ⟨h,_⟩;omega
 have c2:¬(Ej (sLen+m) sCap*inf.bytes>2^48):=by
  have:=growslice_fits (need:=sLen+m) (old:=sCap) (bytes:=inf.bytes) (by omega) h48;have e:2^48=281474976710656:=by decide
  omega
 have Rx:(choose (.appendCap (sLen+m) sCap el)).run P w= .ok (grownCap w (sLen+m) sCap el) w.drew:=by rw[run_choose_drew];rfl
 have akN:∀n W,(askRoom n).run P W= .ok () W:=λn W=>by simp only[askRoom];split<;>simp
 have zZ:∀cs,(newRow el cs).run P w.drew= .ok (ad w.heap.size 0) (w.drew.alloc (.cells cs el)):=λcs=>by simp only[newRow,newObj,b8,nA,bn,cB];rfl
 unfold kK;rw[bJ h];simp only[b8,ht,bn,c1,c2,if_false,Rx,akN,ho,ha,hzv,zZ,cB,lW]
structure App (P:cL) (w:bB) (u:aE) (x:a_) (z:c_ a_) (sz m:aE) (news:ax a_):Prop where
 h:(((∃e',P.underlying u=ah (.slice e'))\/P.underlying u=ah .string)/\(sa x).run P w= .ok m w/\(fY sz m x).run P w= .ok news.toArray w/\(fY sz m x).run P w.drew= .ok news.toArray w.drew)\/
  ((∃k,P.underlying u=ah (.int k))/\(∃k',x= .int k' (m:az))/\news=(fE z m).toList)
 len:news.length=m*sz
 one:∀v∈news,v.oneCell'=ai
structure Yp (w w':bB) (p p':Pl) (m:aE) (news:ax a_):Prop where
 n:p'.n=p.n+m
 sz:p'.sz=p.sz
 nil:p'.nil=ai->p'.cap=0/\p.n=0/\m=0
 mem:p'.nil=ak->∃jv,oX w' p'.blk jv/\p'.n<=p'.cap/\p'.cap<=maxLen/\p'.off+p'.cap*p'.sz<=jv.size/\
  (∀k u,k<p.n*p.sz->w.cell? (ad p.blk (p.off+k))=ah u->jv[p'.off+k]? =ah u)/\(∀k,k<m*p.sz->jv[p'.off+p.n*p.sz+k]? =news[k]?)
 blk:p'.nil=ak->(p.nil=ak/\p'.blk=p.blk)\/p'.blk=w.heap.size
 old:∀b,b<w.heap.size->(p'.nil=ak->b≠p'.blk)->w'.heap[b]? =w.heap[b]?
 size:w.heap.size<=w'.heap.size
 os:w'.os=w.os
 tape:w'.tape=w.tape
 output:w'.output=w.output
theorem xM{w:bB}{t u ty el:aE}{inf:AZ}{z:a_}{p:Pl}{x:a_}{m:aE}{news:ax a_}(hu:P.underlying t=ah (.slice el))(hi:P.info? el=ah inf)(hz:inf.zero=ah z)(hzs:z.cells.size=p.sz)(fm:inf.size=p.sz)
  (iu:p.nil=ai->p.n=0) (ZY:p.nil=ak->∃vals,oX w p.blk vals/\p.n<=p.cap/\p.cap<=maxLen/\p.off+p.cap*p.sz<=vals.size)
  (hx:App P w u x z.cells p.sz m news) (h1:(p.n+m)*inf.bytes<=140737488355328) (h2:p.n+m<=9223372036854775807):
  ∃p' w',(kg #[t,u] ty #[mf p,x]).run P w= .ok (mf p') w'/\Yp w w' p p' m news:=by
 have hmb:m*inf.bytes<=140737488355328:=cZ (cN _ (by omega)) h1;have hzv:∀W,(zeroValue el).run P W= .ok z W:=λW=>by simp[zeroValue,typeInfo,hi,hz]
 have hml:p.n+m<=maxLen:=by simp only[maxLen];omega
 have tail:∀(base:aA Addr) (sLen sCap:aE),∃(zs:aW) (app:Sem (c_ a_)),(kg #[t,u] ty #[.slice base sLen sCap,x]).run P w=(kK el p.sz base sLen sCap (.slice base sLen sCap) x zs m app).run P w/\
   app.run P w= .ok news.toArray w/\app.run P w.drew= .ok news.toArray w.drew:=by
  intro base sLen sCap
  rcases hx.h with ⟨hd,hl,hf,hf2⟩|⟨⟨k,hk⟩,⟨k',hxv⟩,hn⟩
  ·have:=wO (P:=P) (w:=w) (ty:=ty) hu hi hd (base:=base) (sLen:=sLen) (sCap:=sCap) hl;rw[fm]at this;exact⟨_,_,this,hf,hf2⟩
  ·have:=AD (P:=P) (w:=w) (ty:=ty) hu hi hk (base:=base) (sLen:=sLen) (sCap:=sCap) hxv (by omega) hmb;rw[fm]at this;refine⟨_,_,this, ?_, ?_⟩
   ·rw[hn];split
    ·rename_i h0;have:fE z.cells m= #[]:=xP (by rw[size_zeroCells,hzs,h0]);rw[this];rfl
    ·simp only[b8,hzv,bn,cB,r_]
   ·rw[hn];split
    ·rename_i h0;have:fE z.cells m= #[]:=xP (by rw[size_zeroCells,hzs,h0]);rw[this];rfl
    ·simp only[b8,hzv,bn,cB,r_]
 have grow:∀(base:aA Addr) (sCap:aE) (tW:ax a_) (zs:aW) (app:Sem (c_ a_)),¬p.n+m<=sCap->tW.length=p.n*p.sz->(∀k u,k<p.n*p.sz->w.cell? (ad p.blk (p.off+k))=ah u->tW[k]? =ah u)->
   (fY p.sz p.n (.slice base p.n sCap)).run P w.drew= .ok tW.toArray w.drew->app.run P w.drew= .ok news.toArray w.drew->
   ∃p' w',(kK el p.sz base p.n sCap (.slice base p.n sCap) x zs m app).run P w= .ok (mf p') w'/\Yp w w' p p' m news:=by
  intro base sCap tW zs app hc Lj Ta hf ha
  have hr:=BG (P:=P) (w:=w) (size:=p.sz) (zs:=zs) (x:=x) (base:=base) hi hz hc h2 h1 hf ha
  refine⟨⟨ak,w.heap.size,0,grownCap w (p.n+m) sCap el,p.n+m,p.sz⟩,_,hr,⟨rfl,rfl,λh=>(by cases h),λ_=> ?_,λ_=> .inr rfl,λb hb _=>heap_alloc_old w.drew _ b hb,by simp,rfl,rfl,rfl⟩⟩
  have Wa:=grownCap_ge w (p.n+m) sCap el
  refine⟨_,⟨_,_,heap_alloc_new w.drew _,λq _=>by simp⟩,Wa,grownCap_le_maxLen w _ _ _ hml, ?_,λk u hk qB=> ?_,λk hk=> ?_⟩
  ·simp only[Array.size_append,Mj,size_zeroCells,hzs,Lj,hx.len,<-dK,bO];exact cN _ (by omega)
  ·rw[bO,Iy,A8 (by simpa [Lj]using hk),gg];exact Ta k u hk qB
  ·rw[bO,Iy,Array.getElem?_append_right (by simp[Lj]),A8 (by simp[Lj,hx.len];omega),gg];congr 1;simp[Lj]
 cases hq:p.nil with
 |true=>
  have hn:=iu hq;rw[nu hq];obtain⟨zs,app,hr,ha,ha2⟩:=tail aj 0 0;rw[hr];by_cases hm:m=0
  ·subst hm;refine⟨⟨ai,0,0,0,0,p.sz⟩,w,BH ha,⟨by simp[hn],rfl,λ_=>⟨rfl,hn,rfl⟩,λh=>(by cases h),λh=>(by cases h),λ_ _ _=>rfl,cm _,rfl,rfl,rfl⟩⟩
  ·have:=grow aj 0 [] zs app (by omega) (by simp[hn]) (λk u hk=>by rw[hn]at hk;simp at hk) (by rw[hn];exact run_firstCells_none _ _ _ _ _) ha2;rwa[hn]at this
 |false=>
  rw[fj hq];obtain⟨vals,hb,Wg,hcm,mK⟩:=ZY hq;obtain⟨zs,app,hr,ha,ha2⟩:=tail (ah (ad p.blk p.off)) p.n p.cap;rw[hr];have hle:p.n*p.sz<=p.cap*p.sz:=cN _ Wg;by_cases hc:p.n+m<=p.cap
  ·have s_:p.off+p.n*p.sz+news.length<=vals.size:=by have:(p.n+m)*p.sz<=p.cap*p.sz:=cN _ hc;rw[dK]at this;rw[hx.len];omega
   have Lq:=oU (P:=P) w hb s_ hx.one;have hrr:=BI (P:=P) (s:= .slice (ah (ad p.blk p.off)) p.n p.cap) (x:=x) (el:=el) (size:=p.sz) (zs:=zs) ha hc (by rw[Addr.mS];exact Lq);refine⟨⟨ak,p.blk,p.off,p.cap,p.n+m,p.sz⟩,_,hrr,⟨rfl,rfl,λh=>(by cases h),λ_=>⟨_,hb.setRow (jc s_),hc,hcm,by rw[jc s_];exact mK,λk u hk qB=> ?_,λk hk=> ?_⟩,λ_=> .inl ⟨hq,rfl⟩,λb _ S3=>setRow_other w _ b _ (S3 rfl),by simp[jd],rfl,rfl,rfl⟩⟩
   ·show(iJ vals (p.off+p.n*p.sz) news)[p.off+k]? =ah u;rw[mn s_,bJ (by omega),<-hb.cell];exact qB
   ·show(iJ vals (p.off+p.n*p.sz) news)[p.off+p.n*p.sz+k]? =news[k]?;rw[mn s_,bu (by rw[hx.len];omega)];congr 1;omega
  ·have hcell:∀k,k<p.n*p.sz->w.cell? (ad p.blk (p.off+k))=vals[p.off+k]? :=λk _=>hb.cell _;let tW:=(vals.toList.drop p.off).take (p.n*p.sz);have Lj:tW.length=p.n*p.sz:=by simp only[tW,dU,eF,dp];omega
   have Ta:∀k u,k<p.n*p.sz->w.cell? (ad p.blk (p.off+k))=ah u->tW[k]? =ah u:=λk u hk qB=>by rw[hcell k hk]at qB;simp only[tW,d_,bu hk,dN,cC,qB]
   refine grow (ah (ad p.blk p.off)) p.cap tW zs app hc Lj Ta ?_ ha2;refine run_firstCells_some w.drew p.sz p.n _ _ _ tW Lj (λj v hj=> ?_);have jt:j<p.n*p.sz:=by rw[<-Lj];exact(aT.1 hj).1
   simp only[tW,d_,bu jt,dN,cC]at hj;rw[Addr.mS];have:=hcell j jt;rw[hj]at this;simpa using this
end
end Go.FG

