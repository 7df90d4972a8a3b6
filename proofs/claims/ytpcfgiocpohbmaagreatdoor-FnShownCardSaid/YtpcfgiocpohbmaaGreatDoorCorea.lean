/- An evaluator for the part of the language that this program uses, proved sound over the model: states told as values and lists; what an evaluation tells, the call does. No condition. -/
import Derived.Calls
import Derived.Orders
import Derived.Below
import Derived.Laws.AppendOwn
import Derived.Laws.Slices
import Derived.Laws.StructEq
import Derived.Laws.Tables
import Derived.Laws.MakeOwn
import Derived.Laws.IdiomStrings
import Derived.Laws.BytesArg
import Derived.Laws.NewFold
import Derived.SizedLaws
import Derived.Carry
import Derived.ProofKit
import Derived.KernelRfl
import Derived.Laws.Strings
import Derived.Sort.Grow
import Derived.Deep.Draws
set_option linter.unusedVariables false
set_option linter.unusedSimpArgs false
set_option maxRecDepth 100000
open Array renaming getElem?_eq_some_iff->c8,getD_eq_getD_getElem?->dc,getElem?_setIfInBounds->mY,toArray_toList->rP,getElem?_toList->cz,ext'->qK,length_toList->dm,toList_map->xD,getElem?_map->KF,getElem?_extract->dF,range->XI,eq_empty_of_size_eq_zero->xC,append_assoc->Iy,getElem?_append_left->Bw
open BitVec renaming ofInt->cq
open Bool renaming false->ao,true->aj,false_eq_true->cN,and_eq_true->aJ,not_eq_true'->dA,or_eq_false_iff->gD,not_false->bO,not_true->a9
open ByteArray renaming size_extract->vn,size_append->dh,empty->Ee,size->bh
open Go renaming IntKind->lU,World->bw,Value->a7,Operand->cY,Oper->eD,Program->cC,TypeInfo->AG
open Go.Act renaming put->Q3,eval->Ep
open Go.Addr renaming add->XQ
open Go.Builtin renaming len_->tT,max2->BC,min2->BD,clear_->nu,zeroCells->fD,nextslicecap->Ef,firstCells->fV,lenOf->rQ,append_->j4
open Go.Instr renaming loadAt->vG,sureAddr->sr,storeAt->RJ,alloc->XR,fieldAt->RH,indexAt->RI,sliceBound->pG,sliceBounds->lI,sliceAt->o7,slice->XS,fill->n9,buildSlice->wO
open Go.IntKind renaming i64->ar,wrap_i64->oJ
open Go.Op renaming bytesLess->bP
open Go.Oper renaming wp->KH
open Go.Region renaming binds->ll
open Go.Result renaming andThen_ok->bk
open Go.Sem renaming run_bind->bV,run_pure->cy,run->nv,run_ite->lO
open Go.Value renaming slice->XT
open Go.World renaming cell?->yq,cell?_of_block->GY,setRow->iZ
open Int renaming toNat_natCast->dD,natCast_mul->RM
open List renaming mem_cons_of_mem->cg,mem_cons->b7,mem_cons_self->cw,mem_flatMap->bz,mem_of_getElem?->aM,append_nil->dv,length_nil->lP,getElem?_toArray->f_,append_assoc->bY,getElem?_append_left->dx,getElem?_take->dU,getElem?_append_right->cT,getElem?_drop->dK,length_eq_one_iff->fW,getElem?_cons_succ->dr,getD->e6,getElem?_map->bg,getElem_mem->bH,mem_map->cD,all_eq_true->bf,range->ej,getElem?_range->s9,getElem?_eq_none->jK,getElem?_eq_some_iff->aP,mem_of_mem_drop->j6,mem_of_mem_take->kh,getElem?_of_mem->bQ,map_toArray->A3,map_cons->eF,map_nil->zb,ext_getElem?->Q7,eq_nil_of_length_eq_zero->fj,mem_append->aX,length_cons->bU,foldl_cons->nJ,map_map->jr,map_congr_left->Me,size_toArray->xI,length_map->bM,getD_eq_getElem?_getD->cM,getElem?_set->Md,all_cons->mv,head?_drop->Vb,length_take->eg,length_drop->il,length_singleton->bu,mem_append_left->bL,mem_append_right->bE,nodup_append->dQ,length_set->dt,mem_or_eq_of_mem_set->iD,nodup_cons->jy,nil_append->eR,mem_singleton->aW,getElem?_cons_zero->qC
open List.cons renaming injEq->Va
open Nat renaming beq->bA,blt->o9,ble->eG,le_refl->bR,le_trans->cm,lt_of_lt_of_le->gC,eq_of_beq_eq_true->aN,add_zero->rS,add_assoc->rR,le_of_ble_eq_true->cf,add_mul->dE,zero_le->bC,mul_le_mul_right->cL,le_add_right->Yd,eq_zero_or_pos->xK,div_lt_iff_lt_mul->Mg,mod_lt->IQ,mul_comm->KI,zero_add->bG,lt_or_gt_of_ne->Mh,add_comm->ia,sub_self->Ye,sub_zero->Eh,lt_irrefl->bB
open Option renaming some->ah,none->ai,map_some->fM,getD_some->vJ
open Option.some renaming inj->aD,injEq->iF
open Prod.mk renaming inj->bF,injEq->ir
open UInt8 renaming ofNat->ak
open _root_ renaming Nat->aG,Int->ay,Bool->aU,ByteArray->aq,List->ax,Option->aA,Array->cX,if_pos->ba,if_neg->a_,absurd->b_,cond_true->aw,cond_false->az,decide_eq_true_eq->aZ,of_decide_eq_true->ca,congrArg->je
namespace Go.FG
inductive Ck where
 |i (k:lU)|b|s|l (e:aG)|o
inductive CV where
 |i (k:lU) (n:ay)|b (x:aU)|s (x:aq)|l (e:aG) (xs:ax (ax CV))
abbrev Row:=ax (ax CV)
def CV.kd:CV->Ck
 | .i k _=> .i k| .b _=> .b| .s _=> .s| .l e _=> .l e
def bS:CV->ay| .i _ n=>n|_=>0
def cvB:CV->aU| .b x=>x|_=>ao
def bJ:CV->aq| .s x=>x|_=>⟨#[]⟩
def kU:CV->Row| .l _ xs=>xs|_=>[]
def au(xs:Row)(i j:aG):CV:=(xs.getD i []).getD j (.b ao)
inductive AV where
 |i (k:lU) (n:ay)|b (x:aU)|s (x:aq)
 |sh (e:aG) (xs:Row)
 |nl
 |own (nm:aG)
 |vw (nm lo hi:aG)
 |bp (nm j:aG)
 |rp (nm i j:aG)
 |sp (e:aG) (xs:Row) (i j:aG)
 |la (nm i j:aG)
 |ip (nm i j i2 j2:aG)
 |iv (nm i j lo hi:aG)
 |fn (f:aG) (gQ:ax (ax CV))
 |fp (xs:ax CV) (j:aG)
inductive SV where
 |v (agg:aU) (xs:ax AV)|jf (xs:ax (aU×ax AV))|un
inductive Obj where
 |box (xs:ax AV)|mV (xs:ax CV)|row (e:aG) (ex:aU) (xs:Row)|eU (e:aG) (xs:Row)|dead
inductive dS where
 |v (x:SV)|o (x:Obj)|iN
def tX(n:aG):aU:=bA (n%1000) 999&&o9 n 900000000
abbrev St:=aG->dS
def nE(s:St)(k:aG)(c:dS):St:=λn=>bif bA n k then c else s n
def wr(s:St):ax (aG×dS)->St
 |[]=>s
 |(k,c)::r=>wr (nE s k c) r
def o0(n:aG):aG:=2*n
def cG(n:aG):aG:=2*n+1
inductive Rd (α:Type) where
 |ret (a:α)|fail|get (k:aG) (f:dS->Rd α)
def Rd.bind{α β:Type}:Rd α->(α->Rd β)->Rd β
 | .ret a,f=>f a
 | .fail,_=> .fail
 | .get k g,f=> .get k λc=>(g c).bind f
def Rd.run{α:Type}:Rd α->St->ax aG->aA (α×ax aG)
 | .ret a,_,l=>ah (a,l)
 | .fail,_,_=>ai
 | .get k f,s,l=>(f (s k)).run s (k::l)
structure TI where
 agg:aU
 ks:ax Ck
 bytes:aG
inductive AA where
 |i (k:lU) (n:ay)|b (x:aU)|s (x:aq)|sh (e:aG) (xs:Row)|nl
 |ow (e:aG) (ex:aU) (xs:Row)|kp (xs:Row)|fn (f:aG) (gQ:ax (ax CV))
inductive eu where
 |v (agg:aU) (xs:ax AA)|pt (xs:ax AA)|fb (xs:ax CV)
structure Res where
 rs:ax eu
 outs:ax (ax AA)
structure MemI where
 f:bw->(aG->Prop)->Prop
 fr:∀{w w':bw} {K K':aG->Prop},f w K->(∀b,K b->w'.heap[b]? =w.heap[b]?)->(∀b,K b->K' b)->f w' K'
def MemI.iN:MemI:=⟨λ_ _=>True,λ_ _ _=>trivial⟩
structure Tab where
 ty:aG->aA TI
 fo:aG->aG->aA (aG×aG)
 eqs:ax aG
 N8:aG->aG->aU:=λ_ _=>ao
 gp:MemI:= .iN
inductive Om where
 |nat|own (e:aG)|sh (e:aG)
structure eL extends Tab where
 call:aG->ax eu->aA (aU×Res)
 om:aG->aG->Om
 mode:aG->aG->aU
 keep:aG->ax aG
 tk:aG->aU
instance:Coe eL Tab:=⟨eL.toTab⟩
structure qQ where
 cond:aU
 ws:ax (aG×dS)
def ld(n:aG):ax aG->aU
 |[]=>ao|m::r=>bA n m||ld n r
def cst:a7->SV
 | .int k n=> .v ao [.i k n]| .bool x=> .v ao [.b x]| .string x=>bif eG x.size 4611686018427387904 then .v ao [.s x]else .un
 | .slice ai 0 0=> .v ao [.nl]
 |_=> .un
def DQ(x:cY):Rd SV:=
 match x with
 | .tmp t=> .get (o0 t) λ| .v x=> .ret x|_=> .ret .un
 | .const v=> .ret (cst v)
 | .func f=> .ret (.v ao [.fn f []])
 | .global _=> .fail
def iy(nm:aG):Rd Obj:= .get (cG nm) λ| .o x=> .ret x|_=> .fail
def fresh(nm:aG):Rd Unit:= .get (cG nm) λ| .iN=>bif eG nm 899999999 then .ret ()else .fail|_=> .fail
def qf(x:cY):Rd AV:=(DQ x).bind λ| .v ao [a]=> .ret a|_=> .fail
def z_(x:cY):Rd (lU×ay):=(qf x).bind λ| .i k n=> .ret (k,n)|_=> .fail
def dw(o:eD)(v:SV):ax (aG×dS):=match o.dst with|some d=>[(o0 d, .v v)]|none=>[]
def val(o:eD)(v:SV):Rd qQ:= .ret ⟨aj,dw o v⟩
def wI(o:eD)(v:AV):Rd qQ:=val o (.v ao [v])
def Il(o:eD)(c:aU)(v:AV):Rd qQ:= .ret ⟨c,dw o (.v ao [v])⟩
def qn(E:eL)(t:aG):Rd TI:=match E.ty t with|some i=> .ret i|none=> .fail
def oC(E:eL)(t:aG):Rd Ck:=(qn E t).bind λti=>match ti.agg,ti.ks with|false,[k]=> .ret k|_,_=> .fail
def AE:Ck->AV
 | .i k=> .i k 0| .b=> .b ao| .s=> .s ⟨#[]⟩| .l _=> .nl| .o=> .nl
def wJ:Ck->CV
 | .i k=> .i k 0| .b=> .b ao| .s=> .s ⟨#[]⟩| .l e=> .l e []| .o=> .b ao
def JO(ks:ax Ck):aU:=ks.all λ| .o=>ao|_=>aj
def dec:Ck->CV->AV
 | .i k,x=> .i k (bS x)| .b,x=> .b (cvB x)| .s,x=> .s (bJ x)| .l e,x=> .sh e (kU x)| .o,_=> .nl
def sH(xs:Row)(i:aG):aG->ax Ck->ax AV
 |_,[]=>[]
 |j,k::ks=>dec k (au xs i j)::sH xs i (j+1) ks
def xO(nm:aG)(xs:Row)(i:aG):aG->ax Ck->ax AV
 |_,[]=>[]
 |j, .l _::ks=> .la nm i j::xO nm xs i (j+1) ks
 |j,k::ks=>dec k (au xs i j)::xO nm xs i (j+1) ks
def T8:CV->AV
 | .i k n=> .i k n| .b x=> .b x| .s x=> .s x| .l e xs=> .sh e xs
def iB{α:Type}(xs:ax α)(j:aG)(ys:ax α):ax α:=xs.take j++ys++xs.drop (j+ys.length)
def eN(xs:Row)(i j:aG)(ys:ax CV):Row:=xs.set i (iB (xs.getD i []) j ys)
def ate(agg:aU)(xs:ax AV):SV:= .v agg xs
def dR(xs:Row)(lo hi:aG):Row:=(xs.drop lo).take (hi-lo)
def plain(ks:ax Ck):aU:=ks.all λ| .i _=>aj| .b=>aj| .s=>aj|_=>ao
def ckB:Ck->Ck->aU
 | .i a, .i b=>decide (a=b)| .b, .b=>aj| .s, .s=>aj| .l a, .l b=>bA a b| .o, .o=>aj|_,_=>ao
def oS:ax Ck->ax Ck->aU
 |[],[]=>aj|x::l,y::r=>ckB x y&&oS l r|_,_=>ao
def EZ(ex:aU)(k:Ck)(a:AV):Rd (CV×ax (aG×dS)):=
 match k,a with
 | .i k, .i k' n=>if k=k' then .ret (.i k n,[])else .fail
 | .b, .b x=> .ret (.b x,[])
 | .s, .s x=> .ret (.s x,[])
 | .l e, .nl=> .ret (.l e [],[])
 | .l e, .sh e' xs=>bif bA e e'&& !ex then .ret (.l e xs,[])else .fail
 | .l e, .own nm=>(iy nm).bind λ
  | .row e' rW xs=>bif bA e e'&&rW then(bif ex then .ret (.l e xs,[(cG nm, .o .dead)])else .fail)else .fail
  | .eU e' xs=>bif bA e e'&& !ex then .ret (.l e xs,[])else .fail
  |_=> .fail
 |_,_=> .fail
def we(ex:aU):ax Ck->ax AV->Rd (ax CV×ax (aG×dS))
 |[],[]=> .ret ([],[])
 |k::ks,a::r=>(EZ ex k a).bind λ(c,w)=>(we ex ks r).bind λ(cs,ws)=> .ret (c::cs,w++ws)
 |_,_=> .fail
def ab9:ax AV->aU
 |[]=>aj
 | .sh _ _::_=>ao
 |_::r=>ab9 r
end Go.FG

namespace Go.FG
def Yv(op:BinOp)(k:lU)(a b:ay):aA (aU×AV):=
 match op with
 | .add=>ah (aj, .i k (k.wrap (a+b)))
 | .sub=>ah (aj, .i k (k.wrap (a-b)))
 | .mul=>ah (aj, .i k (k.wrap (a*b)))
 | .quo=>ah (!(b==0), .i k (k.wrap (a.tdiv b)))
 | .rem=>ah (!(b==0), .i k (a.tmod b))
 | .and=>ah (aj, .i k (k.wrap (cq k.bits a&&&cq k.bits b).toNat))
 | .or=>ah (aj, .i k (k.wrap (cq k.bits a|||BitVec.ofInt k.bits b).toNat))
 | .xor=>ah (aj, .i k (k.wrap (cq k.bits a^^^cq k.bits b).toNat))
 | .eql=>ah (aj, .b (a==b))
 | .neq=>ah (aj, .b (a !=b))
 | .lss=>ah (aj, .b (decide (a<b)))
 | .leq=>ah (aj, .b (decide (a<=b)))
 | .gtr=>ah (aj, .b (decide (a>b)))
 | .geq=>ah (aj, .b (decide (a≥b)))
 |_=>ai
def Yx(op:BinOp)(a b:aq):aA (aU×AV):=
 match op with
 | .add=>ah (decide (a.size+b.size<=4611686018427387904), .s (a++b))
 | .eql=>ah (aj, .b (a.toList==b.toList))
 | .neq=>ah (aj, .b (!(a.toList==b.toList)))
 | .lss=>ah (aj, .b (bP a.toList b.toList))
 | .leq=>ah (aj, .b (bP a.toList b.toList||a.toList==b.toList))
 | .gtr=>ah (aj, .b (!(bP a.toList b.toList||a.toList==b.toList)))
 | .geq=>ah (aj, .b (!(bP a.toList b.toList)))
 |_=>ai
def Sq:ax AV->ax AV->aA aU
 |[],[]=>ah aj
 | .i k a::l, .i k' b::r=>if k=k' then(match Sq l r with|some t=>ah ((a==b)&&t)|none=>ai)else ai
 | .b a::l, .b b::r=>match Sq l r with|some t=>ah ((a==b)&&t)|none=>ai
 | .s a::l, .s b::r=>match Sq l r with|some t=>ah ((a.toList==b.toList)&&t)|none=>ai
 |_,_=>ai
def DE:AV->Ck
 | .i k _=> .i k| .b _=> .b| .s _=> .s|_=> .o
def G_(op:BinOp)(k:Ck):AV->AV->aA (aU×AV)
 | .i k a, .i k' b=>if k=k' then Yv op k a b else ai
 | .s a, .s b=>Yx op a b
 | .b a, .b b=>match op,k with| .eql, .b=>ah (aj, .b (a==b))| .neq, .b=>ah (aj, .b (!(a==b)))|_,_=>ai
 |_,_=>ai
def shV(op:BinOp):AV->AV->aA (aU×AV)
 | .i k a, .i _ b=>match op with
  | .shl=>ah (decide (0<=b), .i k (k.wrap (a*2^(min b.toNat k.bits))))
  | .shr=>ah (decide (0<=b), .i k (a.fdiv (2^(min b.toNat k.bits))))
  |_=>ai
 |_,_=>ai
def Lq:BinOp->aU| .shl=>aj| .shr=>aj|_=>ao
def isEq:BinOp->aU| .eql=>aj| .neq=>aj|_=>ao
def Pz{α:Type}:aA α->Rd α|some a=> .ret a|none=> .fail
def Yw(E:eL)(t:aG)(op:BinOp)(x y:SV):Rd (aU×AV):=
 match x,y with
 | .v ao [a], .v ao [b]=>bif Lq op then Pz (shV op a b)else(oC E t).bind λk=>Pz (G_ op k a b)
 | .v aj xs, .v aj ys=>(qn E t).bind λti=>
   bif isEq op&&ld t E.eqs&&oS (xs.map DE) ti.ks&&oS (ys.map DE) ti.ks&&plain ti.ks then Pz (match Sq xs ys with|some r=>ah (aj,AV.b (match op with| .eql=>r|_=> !r))|none=>ai)else .fail
 |_,_=> .fail
def Jn:ax AV->ax (aG×ax AV)->ax AV
 |z,[]=>z
 |z,(j,ys)::r=>Jn (iB z j ys) r
def DR(E:eL)(t:aG):ax (aG×cY)->Rd (ax (aG×ax AV))
 |[]=> .ret []
 |(f,x)::r=>(DQ x).bind λ
  | .v _ ys=>match E.fo t f with
   |some (o,n)=>bif bA ys.length n then(DR E t r).bind λl=> .ret ((o,ys)::l)else .fail
   |none=> .fail
  |_=> .fail
def kY(E:eL)(a:AV):Rd (aG×Row):=
 match a with
 | .sh e xs=> .ret (e,xs)
 | .own nm=>(iy nm).bind λ| .row e _ xs=> .ret (e,xs)| .eU e xs=> .ret (e,xs)|_=> .fail
 | .vw nm lo hi=>(iy nm).bind λ| .row e _ xs=> .ret (e,dR xs lo hi)| .eU e xs=> .ret (e,dR xs lo hi)|_=> .fail
 | .la nm i j=>(iy nm).bind λ
  | .row e aj xs=>(qn E e).bind λti=>match ti.ks[j]? with|some (.l e2)=> .ret (e2,kU (au xs i j))|_=> .fail
  |_=> .fail
 |_=> .fail
def ZB(E:eL)(k:Ck)(a:AV):Rd ay:=
 match k,a with
 | .s, .s x=> .ret x.size
 | .l _, .nl=> .ret 0
 | .l _, .vw nm lo hi=>(iy nm).bind λ| .row _ _ _=> .ret ((hi-lo:aG):ay)| .eU _ _=> .ret ((hi-lo:aG):ay)|_=> .fail
 | .l _,a=>(kY E a).bind λ(_,xs)=> .ret xs.length
 |_,_=> .fail
def Hh(ex:aU)(ks:ax Ck):ax (aG×cY)->Row->Rd (Row×ax (aG×dS))
 |[],z=> .ret (z,[])
 |(i,x)::r,z=>(DQ x).bind λ
  | .v _ ys=>bif eG (i+1) z.length then(we ex ks ys).bind λ(cs,w)=>(Hh ex ks r (z.set i cs)).bind λ(z,ws)=> .ret (z,w++ws)else .fail
  |_=> .fail
def Ji:ax (aG×cY)->Rd aU
 |[]=> .ret aj
 |(_,x)::r=>(DQ x).bind λ
  | .v _ ys=>(Ji r).bind λb=> .ret (ab9 ys&&b)
  |_=> .fail
def aR(ks:ax Ck)(n:aG):Row:=List.replicate n (ks.map wJ)
def bytesOf(xs:Row):aq:=⟨(xs.map λy=>ak (bS (y.getD 0 (.b ao))).toNat).toArray⟩
def pA(s:aq):Row:=s.data.toList.map λb=>[.i .u8 (b.toNat:ay)]
def Z_:ax Ck->aU|[.i .u8]=>aj|_=>ao
def flat(E:eL)(ks:ax Ck):aU:=ks.all λ
 | .l e=>match E.ty e with|some ti=>plain ti.ks|none=>ao
 |_=>aj
def cF(n:aG)(bytes:aG):aU:=decide (n*bytes<=140737488355328)&&decide (n<=9223372036854775807)
def qz(E:eL)(ti:TI)(p:AV):Rd (ax AV):=
 match p with
 | .bp nm j=>(iy nm).bind λ
  | .box xs=>bif eG (j+ti.ks.length) xs.length then .ret ((xs.drop j).take ti.ks.length)else .fail
  | .mV xs=>bif eG (j+ti.ks.length) xs.length then .ret (((xs.drop j).take ti.ks.length).map T8)else .fail
  |_=> .fail
 | .fp xs j=>bif eG (j+ti.ks.length) xs.length then .ret (((xs.drop j).take ti.ks.length).map T8)else .fail
 | .sp e xs i j=>(qn E e).bind λte=>bif oS ((te.ks.drop j).take ti.ks.length) ti.ks then .ret (sH xs i j ti.ks)else .fail
 | .rp nm i j=>(iy nm).bind λ
  | .row e ex xs=>(qn E e).bind λte=>bif oS ((te.ks.drop j).take ti.ks.length) ti.ks then(bif ex&&tX nm then(bif plain ti.ks then .ret (sH xs i j ti.ks)else .fail)else .ret (bif ex then xO nm xs i j ti.ks else sH xs i j ti.ks))else .fail
  | .eU e xs=>(qn E e).bind λte=>bif oS ((te.ks.drop j).take ti.ks.length) ti.ks then .ret (sH xs i j ti.ks)else .fail
  |_=> .fail
 | .ip nm i j i2 j2=>(iy nm).bind λ
  | .row e aj xs=>(qn E e).bind λte=>match te.ks[j]? with
   |some (.l e2)=>(qn E e2).bind λt2=>bif oS ((t2.ks.drop j2).take ti.ks.length) ti.ks then .ret (sH (kU (au xs i j)) i2 j2 ti.ks)else .fail
   |_=> .fail
  |_=> .fail
 |_=> .fail
def D7(E:eL)(p:AV)(ys:ax AV):Rd (ax (aG×dS)):=
 match p with
 | .bp nm j=>(iy nm).bind λ
  | .box xs=>bif eG (j+ys.length) xs.length then .ret [(cG nm, .o (.box (iB xs j ys)))]else .fail
  |_=> .fail
 | .rp nm i j=>(iy nm).bind λ
  | .row e ex xs=>(qn E e).bind λte=>bif plain ((te.ks.drop j).take ys.length)then(we ao ((te.ks.drop j).take ys.length) ys).bind λ(cs,_)=> .ret [(cG nm, .o (.row e ex (eN xs i j cs)))]else .fail
  |_=> .fail
 | .ip nm i j i2 j2=>(iy nm).bind λ
  | .row e aj xs=>(qn E e).bind λte=>match te.ks[j]? with
   |some (.l e2)=>(qn E e2).bind λt2=>bif plain t2.ks then(we ao ((t2.ks.drop j2).take ys.length) ys).bind λ(cs,_)=>
    .ret [(cG nm, .o (.row e aj (eN xs i j [.l e2 (eN (kU (au xs i j)) i2 j2 cs)])))]else .fail
   |_=> .fail
  |_=> .fail
 |_=> .fail
def FR:ax AV->aU
 |[]=>aj
 | .own _::_=>ao
 |_::r=>FR r
def wy:aG->ax AV->aA (aG×aG)
 |_,[]=>ai
 |q, .own n::r=>bif FR r then ah (q,n)else ai
 |q,_::r=>wy (q+1) r
def Bg(e2 n2:aG)(zs:Row):ax Ck->ax AV->aA (ax CV)
 |[],[]=>ah []
 | .i k::ks, .i k' x::r=>if k=k' then(Bg e2 n2 zs ks r).map (.i k x:: ·)else ai
 | .b::ks, .b x::r=>(Bg e2 n2 zs ks r).map (.b x:: ·)
 | .s::ks, .s x::r=>(Bg e2 n2 zs ks r).map (.s x:: ·)
 | .l e::ks, .own n::r=>bif bA e e2&&bA n n2 then(Bg e2 n2 zs ks r).map (.l e2 zs:: ·)else ai
 |_,_=>ai
def D6(E:eL)(n i j:aG)(ys:ax AV):Rd (ax (aG×dS)):=
 (iy n).bind λ
 | .row e aj xs=>(qn E e).bind λte=>match wy 0 ys with
  |some (q,n2)=>bif bA n n2 then .fail else(iy n2).bind λ
   | .row e2 aj zs=>(qn E e2).bind λt2=>bif plain t2.ks&&eG (j+ys.length) te.ks.length then(match Bg e2 n2 zs ((te.ks.drop j).take ys.length) ys with
    |some cs=> .ret [(cG n, .o (.row e aj (eN xs i j cs))),(cG n2, .o .dead)]
    |none=> .fail)else .fail
   |_=> .fail
  |none=> .fail
 |_=> .fail
def R_(E:eL)(n i j i2 j2 lo hi:aG):Rd (ax (aG×dS)):=
 (iy n).bind λ
 | .row e aj xs=>(qn E e).bind λte=>match te.ks[j]?,te.ks[j2]? with
  |some (.l e2),ah (.l e3)=>bif bA e2 e3 then .ret [(cG n, .o (.row e ao (eN xs i j [.l e2 (dR (kU (au xs i2 j2)) lo hi)])))]else .fail
  |_,_=> .fail
 |_=> .fail
def S9:ax AV->aA (aG×aG×aG×aG×aG)
 |[.iv n i j lo hi]=>ah (n,i,j,lo,hi)
 |_=>ai
def QK(E:eL)(p:AV)(ys:ax AV):Rd (ax (aG×dS)):=
 match p with
 | .rp n i j=>bif tX n then D6 E n i j ys else(match S9 ys with
  |some (n2,i2,j2,lo,hi)=>bif bA n n2 then R_ E n i j i2 j2 lo hi else .fail
  |none=>D7 E (.rp n i j) ys)
 |p=>D7 E p ys
def N3(E:eL)(t:aG)(f:aG)(p:AV):Rd AV:=
 match E.fo t f with
 |none=> .fail
 |some (o,_)=>match p with
  | .bp nm j=> .ret (.bp nm (j+o))
  | .rp nm i j=> .ret (.rp nm i (j+o))
  | .sp e xs i j=> .ret (.sp e xs i (j+o))
  | .ip nm i j i2 j2=> .ret (.ip nm i j i2 (j2+o))
  | .fp xs j=> .ret (.fp xs (j+o))
  |_=> .fail
def Oz(E:eL)(e:aG)(x:AV)(n:ay):Rd (aU×AV):=
 match x with
 | .sh e' xs=>bif bA e e' then .ret (decide (0<=n)&&decide (n<(xs.length:ay)), .sp e' xs n.toNat 0)else .fail
 | .own nm=>(iy nm).bind λ
  | .row e' _ xs=>bif bA e e' then .ret (decide (0<=n)&&decide (n<(xs.length:ay)), .rp nm n.toNat 0)else .fail
  | .eU e' xs=>bif bA e e' then .ret (decide (0<=n)&&decide (n<(xs.length:ay)), .rp nm n.toNat 0)else .fail
  |_=> .fail
 | .vw nm lo hi=>(iy nm).bind λ
  | .row e' _ xs=>bif bA e e' then .ret (decide (0<=n)&&decide (n<((hi-lo:aG):ay)), .rp nm (lo+n.toNat) 0)else .fail
  | .eU e' xs=>bif bA e e' then .ret (decide (0<=n)&&decide (n<((hi-lo:aG):ay)), .rp nm (lo+n.toNat) 0)else .fail
  |_=> .fail
 | .la nm i j=>(iy nm).bind λ
  | .row e1 aj xs=>(qn E e1).bind λte=>match te.ks[j]? with
   |some (.l e')=>bif bA e e' then .ret (decide (0<=n)&&decide (n<((kU (au xs i j)).length:ay)), .ip nm i j n.toNat 0)else .fail
   |_=> .fail
  |_=> .fail
 |_=> .fail
def lN(x:aA cY)(d:ay):Rd ay:=
 match x with
 |none=> .ret d
 |some x=>(z_ x).bind λ(_,n)=> .ret n
def gU(l h n:ay):aU:=decide (0<=l)&&decide (l<=h)&&decide (h<=n)
def Qg(e:aG)(x:AV)(lo hi:aA cY):Rd (aU×AV):=
 match x with
 | .sh e' xs=>bif bA e e' then(lN lo 0).bind λl=>(lN hi xs.length).bind λh=> .ret (gU l h xs.length, .sh e' (dR xs l.toNat h.toNat))else .fail
 | .own nm=>(iy nm).bind λ
  | .row e' _ xs=>bif bA e e' then(lN lo 0).bind λl=>(lN hi xs.length).bind λh=> .ret (gU l h xs.length, .vw nm l.toNat h.toNat)else .fail
  | .eU e' xs=>bif bA e e' then(lN lo 0).bind λl=>(lN hi xs.length).bind λh=> .ret (gU l h xs.length, .vw nm l.toNat h.toNat)else .fail
  |_=> .fail
 | .vw nm a b=>(iy nm).bind λ
  | .row e' _ _=>bif bA e e' then(lN lo 0).bind λl=>(lN hi ((b-a:aG):ay)).bind λh=> .ret (gU l h ((b-a:aG):ay), .vw nm (a+l.toNat) (a+h.toNat))else .fail
  | .eU e' _=>bif bA e e' then(lN lo 0).bind λl=>(lN hi ((b-a:aG):ay)).bind λh=> .ret (gU l h ((b-a:aG):ay), .vw nm (a+l.toNat) (a+h.toNat))else .fail
  |_=> .fail
 | .nl=>(lN lo 0).bind λl=>(lN hi 0).bind λh=> .ret (gU l h 0, .nl)
 |_=> .fail
def Z4(E:eL)(e n i j:aG)(lo hi:aA cY):Rd (aU×AV):=
 (iy n).bind λ
 | .row e1 aj xs=>(qn E e1).bind λte=>match te.ks[j]? with
  |some (.l e')=>bif bA e e' then(lN lo 0).bind λl=>(lN hi (kU (au xs i j)).length).bind λh=> .ret (gU l h (kU (au xs i j)).length, .iv n i j l.toNat h.toNat)else .fail
  |_=> .fail
 |_=> .fail
def Qh(E:eL)(e:aG)(x:AV)(lo hi:aA cY):Rd (aU×AV):=
 match x with
 | .la n i j=>Z4 E e n i j lo hi
 |x=>Qg e x lo hi
def Ie(E:eL)(k:Ck)(x:AV)(lo hi:aA cY):Rd (aU×AV):=
 match k,x with
 | .s, .s a=>(lN lo 0).bind λl=>(lN hi a.size).bind λh=> .ret (gU l h a.size, .s (a.extract l.toNat h.toNat))
 | .l e,x=>(qn E e).bind λ_=>Qh E e x lo hi
 |_,_=> .fail
def uq(e:aG)(s:AV):Rd (aU×Row×ax aG):=
 match s with
 | .nl=> .ret (aj,[],[])
 | .own nm=>(iy nm).bind λ
  | .row e' ex xs=>bif bA e e' then .ret (ex,xs,[nm])else .fail
  |_=> .fail
 | .vw nm lo hi=>(iy nm).bind λ
  | .row e' ex xs=>bif bA e e' then .ret (ex,dR xs lo hi,[nm])else .fail
  |_=> .fail
 |_=> .fail
def O2(E:eL)(ru e:aG)(ks:ax Ck)(b:ax aG)(x:AV):Rd (aU×Row×ax (aG×dS)):=
 match x with
 | .s a=>bif Z_ ks then .ret (aj,pA a,[])else .fail
 | .nl=> .ret (aj,[],[])
 | .sh e' xs=>bif bA e e' then .ret (plain ks,xs,[])else .fail
 | .own nm=>(iy nm).bind λ
  | .row e' ex xs=>bif bA e e' then
    (bif plain ks|| !ex then .ret (plain ks,xs,[])
    else bif ld nm b then .fail
    else bif E.tk ru then .ret (ao,xs,[(cG nm, .o (.eU e xs))])else .ret (aj,xs,[(cG nm, .o .dead)]))else .fail
  | .eU e' xs=>bif bA e e' then .ret (plain ks,xs,[])else .fail
  |_=> .fail
 | .vw nm lo hi=>(iy nm).bind λ
  | .row e' ex xs=>bif bA e e' then
    (bif plain ks|| !ex then .ret (plain ks,dR xs lo hi,[])
    else bif ld nm b then .fail
    else bif E.tk ru then .ret (ao,dR xs lo hi,[(cG nm, .o (.eU e xs))])else .fail)else .fail
  | .eU e' xs=>bif bA e e' then .ret (plain ks,dR xs lo hi,[])else .fail
  |_=> .fail
 | .la nm i j=>bif plain ks then(kY E (.la nm i j)).bind λ(e',xs)=>bif bA e e' then .ret (aj,xs,[])else .fail else .fail
 |_=> .fail
def m7(b:ax aG):ax (aG×dS):=b.map λn=>(cG n, .o .dead)
def Dc(E:eL)(ru:aG)(t:aG)(s x:AV):Rd (aU×AV×ax (aG×dS)):=
 (qn E t).bind λti=>match ti.agg,ti.ks with
 |false,[.l e]=>(qn E e).bind λte=>bif JO te.ks then(uq e s).bind λ(AK,xs,b)=>
  (O2 E ru e te.ks b x).bind λ(xS,ys,w2)=>(fresh ru).bind λ_=>
  .ret (cF (xs.length+ys.length) te.bytes, .own ru,m7 b++(w2++[(cG ru, .o (.row e (AK&&xS) (xs++ys)))]))else .fail
 |_,_=> .fail
def Q0(E:eL)(ru:aG)(t:aG)(s:AV)(n:ay):Rd (aU×AV×ax (aG×dS)):=
 (qn E t).bind λti=>match ti.agg,ti.ks with
 |false,[.l e]=>(qn E e).bind λte=>bif JO te.ks&&flat E te.ks then(uq e s).bind λ(ex,xs,b)=>(fresh ru).bind λ_=>
  .ret (decide (0<=n)&&cF (xs.length+n.toNat) te.bytes&&decide (n<=9223372036854775807), .own ru,m7 b++[(cG ru, .o (.row e ex (xs++aR te.ks n.toNat)))])else .fail
 |_,_=> .fail
def NT(E:eL)(e:aG)(x:AV):Rd (ax (aG×dS)):=
 match x with
 | .own nm=>(iy nm).bind λ
  | .row e' ex xs=>(qn E e).bind λte=>bif bA e e'&&plain te.ks then .ret [(cG nm, .o (.row e' ex (aR te.ks xs.length)))]else .fail
  |_=> .fail
 | .vw nm lo hi=>(iy nm).bind λ
  | .row e' ex xs=>(qn E e).bind λte=>bif bA e e'&&plain te.ks then .ret [(cG nm, .o (.row e' ex (xs.take lo++aR te.ks (hi-lo)++xs.drop hi)))]else .fail
  |_=> .fail
 | .nl=> .ret []
 |_=> .fail
def fS(mx:aU)(a b:ay):ay:=bif mx then(if b>a then b else a)else(if b<a then b else a)
def uQ(mx:aU):ax cY->lU->ay->Rd AV
 |[],k,a=> .ret (.i k a)
 |x::r,k,a=>(z_ x).bind λ(_,b)=>uQ mx r k (fS mx a b)
end Go.FG

namespace Go.FG
inductive Src where
 |own (nm e:aG) (ex:aU)|no
structure Pk where
 a:AA
 src:Src
 rd:ax aG
def w8(E:eL)(mt:aU)(a:AV):Rd Pk:=
 match a with
 | .i k n=> .ret ⟨.i k n, .no,[]⟩| .b x=> .ret ⟨.b x, .no,[]⟩| .s x=> .ret ⟨.s x, .no,[]⟩
 | .sh e xs=> .ret ⟨.sh e xs, .no,[]⟩
 | .nl=> .ret ⟨.nl, .no,[]⟩
 | .fn f gQ=> .ret ⟨.fn f gQ, .no,[]⟩
 | .own nm=>(iy nm).bind λ
  | .row e ex xs=>bif mt then .ret ⟨.ow e ex xs, .own nm e ex,[]⟩else .ret ⟨.sh e xs, .no,[nm]⟩
  | .eU e xs=> .ret ⟨.sh e xs, .no,[]⟩
  |_=> .fail
 | .vw nm lo hi=>bif mt then .fail else(iy nm).bind λ
  | .row e _ xs=> .ret ⟨.sh e (dR xs lo hi), .no,[nm]⟩
  | .eU e xs=> .ret ⟨.sh e (dR xs lo hi), .no,[]⟩
  |_=> .fail
 | .la nm i j=>(iy nm).bind λ
  | .row e aj xs=>(qn E e).bind λte=>match te.ks[j]? with
   |some (.l e2)=>(qn E e2).bind λt2=>bif plain t2.ks&& !mt then .ret ⟨.sh e2 (kU (au xs i j)), .no,[nm]⟩else .fail
   |_=> .fail
  |_=> .fail
 |_=> .fail
def Ag(E:eL)(mt:aU):ax AV->Rd (ax Pk)
 |[]=> .ret []
 |a::r=>(w8 E mt a).bind λp=>(Ag E mt r).bind λl=> .ret (p::l)
structure Pa where
 arg:eu
 box:aA (aG×ax AV)
 cs:ax Pk
def Yo(E:eL)(mt:aU)(x:SV):Rd Pa:=
 match x with
 | .v ao [.bp nm 0]=>bif mt then(iy nm).bind λ
   | .box xs=>(Ag E aj xs).bind λl=> .ret ⟨.pt (l.map (·.a)),ah (nm,xs),l⟩
   |_=> .fail
  else .fail
 | .v agg xs=>(Ag E mt xs).bind λl=> .ret ⟨.v agg (l.map (·.a)),ai,l⟩
 |_=> .fail
def T3:Ck->AV->AV
 | .l e, .nl=> .sh e []
 |_,a=>a
def z5:ax Ck->ax AV->ax AV
 |k::ks,a::r=>T3 k a::z5 ks r
 |_,r=>r
def nlz(E:Tab)(t:aA aG)(v:SV):SV:=
 match t with
 |none=>v
 |some t=>match E.ty t,v with
  |some ti, .v g xs=> .v g (z5 ti.ks xs)
  |_,v=>v
def NC(E:eL)(f:aG)(Mq:aA (ax aG)):aG->ax cY->Rd (ax Pa)
 |_,[]=> .ret []
 |p,x::r=>(DQ x).bind λv=>(Yo E (E.mode f p) (bif E.mode f p then v else nlz E (match Mq with|some l=>l[p]? |none=>ai) v)).bind λa=>bif eG a.cs.length 100 then(NC E f Mq (p+1) r).bind λl=> .ret (a::l)else .fail
def Pk.r_(p:Pk):ax aG:=match p.src with| .own nm _ _=>[nm]| .no=>[]
def Pa.r_(p:Pa):ax aG:=(match p.box with|some (nm,_)=>[nm]|none=>[])++p.cs.flatMap (·.r_)
def Pa.mn(p:Pa):ax aG:=p.cs.flatMap (·.rd)
def ry:ax aG->aU
 |[]=>aj|n::r=> !ld n r&&ry r
def pZ:ax aG->ax aG->aU
 |[],_=>aj|n::r,l=> !ld n l&&pZ r l
def p7(ok:aU)(nm:aG)(a:AA):Rd (AV×ax (aG×dS)):=
 match a with
 | .i k n=> .ret (.i k n,[])| .b x=> .ret (.b x,[])| .s x=> .ret (.s x,[])| .nl=> .ret (.nl,[])
 | .sh e xs=>bif ok then .ret (.sh e xs,[])else .fail
 | .ow e ex xs=>bif ex||ok then(fresh nm).bind λ_=> .ret (.own nm,[(cG nm, .o (.row e ex xs))])else .fail
 |_=> .fail
def yA(ok:aU):aG->ax AA->Rd (ax AV×ax (aG×dS))
 |_,[]=> .ret ([],[])
 |nm,a::r=>(p7 ok nm a).bind λ(v,w)=>(yA ok (nm+1) r).bind λ(vs,ws)=> .ret (v::vs,w++ws)
def Df(ok:aU)(nm:aG)(a:eu):Rd ((aU×ax AV)×ax (aG×dS)):=
 match a with
 | .v agg xs=>(yA ok nm xs).bind λ(vs,ws)=> .ret ((agg,vs),ws)
 | .pt xs=>(yA ok nm xs).bind λ(vs,ws)=>(fresh (nm+30)).bind λ_=> .ret ((ao,[.bp (nm+30) 0]),ws++[(cG (nm+30), .o (.box vs))])
 | .fb _=> .fail
def zn(ok:aU):aG->ax eu->Rd (ax (aU×ax AV)×ax (aG×dS))
 |_,[]=> .ret ([],[])
 |nm,a::r=>(Df ok nm a).bind λ(v,w)=>(zn ok (nm+40) r).bind λ(vs,ws)=> .ret (v::vs,w++ws)
def Ce(ok:aU)(p:Pk)(a:AA):Rd (ax (aG×dS)):=
 match p.src,a with
 | .no,_=> .ret []
 | .own nm e ex, .kp xs=>bif ex||ok then .ret [(cG nm, .o (.row e ex xs))]else .fail
 | .own nm _ _, .nl=> .ret [(cG nm, .o .dead)]
 |_,_=> .fail
def H3(ok:aU):ax Pk->ax AA->Rd (ax (aG×dS))
 |[],_=> .ret []
 |p::r,l=>(Ce ok p (l.headD .nl)).bind λw=>(H3 ok r l.tail).bind λws=> .ret (w++ws)
def Ab(ok:aU)(nm:aG)(p:Pk)(v:AV)(a:AA):Rd (AV×ax (aG×dS)):=
 match p.src,a with
 | .own n e ex, .kp xs=>bif ex||ok then .ret (v,[(cG n, .o (.row e ex xs))])else .fail
 | .own n _ _,a=>(p7 ok nm a).bind λ(v,w)=> .ret (v,(cG n, .o .dead)::w)
 | .no,a=>p7 ok nm a
def qg(ok:aU):aG->ax Pk->ax AV->ax AA->Rd (ax AV×ax (aG×dS))
 |_,[],[],[]=> .ret ([],[])
 |nm,p::ps,v::vs,a::as=>(Ab ok nm p v a).bind λ(v,w)=>(qg ok (nm+1) ps vs as).bind λ(vs,ws)=> .ret (v::vs,w++ws)
 |_,_,_,_=> .fail
def PA(ok:aU)(nm:aG)(p:Pa)(l:ax AA):Rd (ax (aG×dS)):=
 match p.box with
 |some (n,vs)=>(qg ok nm p.cs vs l).bind λ(vs,ws)=> .ret (ws++[(cG n, .o (.box vs))])
 |none=>H3 ok p.cs l
def H2(ok:aU):aG->ax Pa->ax (ax AA)->Rd (ax (aG×dS))
 |_,[],_=> .ret []
 |nm,p::r,l=>(PA ok nm p (l.headD [])).bind λw=>(H2 ok (nm+40) r l.tail).bind λws=> .ret (w++ws)
def qA:ax (aU×ax AV)->SV
 |[(agg,xs)]=> .v agg xs
 |l=> .jf l
def lY:eu->aG| .v _ xs=>xs.length| .pt xs=>xs.length| .fb _=>0
def Ob:ax aG->Rd (ax (aG×dS))
 |[]=> .ret []
 |n::r=>(iy n).bind λ
  | .row e _ xs=>(Ob r).bind λws=> .ret ((cG n, .o (.eU e xs))::ws)
  |_=> .fail
def Dh(E:eL)(nm:aG)(o:eD)(f:aG)(args:ax cY)(Mq:aA (ax aG))(gQ:ax (ax CV)):Rd qQ:=
 (NC E f Mq 0 args).bind λps=>
  bif ry (ps.flatMap (·.r_))&&pZ (ps.flatMap (·.r_)) (ps.flatMap (·.mn))then
   match E.call f (ps.map (·.arg)++gQ.map eu.fb)with
   |some (c,r)=>bif eG ps.length 400&&(r.rs.all λa=>eG (lY a) 30)&&(r.outs.all λa=>eG a.length 100)then(Ob (bif E.tk nm then ps.flatMap (·.mn)else [])).bind λw0=>
    (H2 (E.tk nm||(ps.flatMap (·.mn)).isEmpty) (nm+400) ps r.outs).bind λw1=>(zn (E.tk nm||(ps.flatMap (·.mn)).isEmpty) (nm+1) r.rs).bind λ(vs,w2)=>
    bif ry ((w1++w2).map (·.1))then .ret ⟨c,w0++(w1++w2)++dw o (qA vs)⟩else .fail else .fail
   |none=> .fail
  else .fail
def Rd.or{α:Type}:Rd α->Rd α->Rd α
 | .ret a,_=> .ret a
 | .fail,y=>y
 | .get k f,y=> .get k λc=>(f c).or y
def Jb(E:eL)(nm:aG)(o:eD)(f:aG)(args:ax cY)(Mq:ax aG)(gQ:ax (ax CV)):Rd qQ:=
 (Dh E nm o f args ai gQ).or (Dh E nm o f args (ah Mq) gQ)
def zS(E:eL)(o:eD)(f n i j:aG)(y:cY):Rd qQ:=
 (z_ y).bind λ(k,m)=>(iy n).bind λ
  | .row e aj xs=>(qn E e).bind λte=>match te.ks[j]? with
   |some (.l e2)=>match E.call f [.v ao [.ow e2 aj (kU (au xs i j))], .v ao [.i k m]]with
    |some (c,r)=>match r.rs,r.outs with
     |[.v ao [.i k2 m2]],[[.kp ys]]=> .ret ⟨c,(cG n, .o (.row e aj (eN xs i j [.l e2 ys])))::dw o (.v ao [.i k2 m2])⟩
     |_,_=> .fail
    |none=> .fail
   |_=> .fail
  |_=> .fail
def NM:ax cY->Rd (ax (ax CV)×ax (aG×dS))
 |[]=> .ret ([],[])
 |x::r=>(qf x).bind λ
  | .bp nm 0=>(iy nm).bind λ
   | .box xs=>(YB xs).bind λcs=>(NM r).bind λ(l,ws)=> .ret (cs::l,(cG nm, .o (.mV cs))::ws)
   | .mV cs=>(NM r).bind λ(l,ws)=> .ret (cs::l,ws)
   |_=> .fail
  |_=> .fail
where YB:ax AV->Rd (ax CV)
 |[]=> .ret []
 |a::r=>(YB r).bind λl=>match a with
  | .i k n=> .ret (.i k n::l)| .b x=> .ret (.b x::l)| .s x=> .ret (.s x::l)
  | .sh e xs=> .ret (.l e xs::l)
  |_=> .fail
def kH(E:eL)(nm:aG)(o:eD):Rd qQ:=
 match o.op with
 | .move x| .assign x=>(DQ x).bind λv=>val o v
 | .nilCheck x=>(qf x).bind λp=>match p with
  | .bp nm j=>val o (.v ao [.bp nm j])
  | .rp nm i j=>val o (.v ao [.rp nm i j])
  |_=> .fail
 | .pick c a b=>(qf c).bind λc=>(DQ a).bind λa=>(DQ b).bind λb=>
  match c,a,b with
  | .b c, .v ao [.b p], .v ao [.b q]=>wI o (.b (bif c then p else q))
  | .b c, .jf [],b=> .ret ⟨!c,dw o b⟩
  | .b c,a, .jf []=> .ret ⟨c,dw o a⟩
  |_,_,_=> .fail
 | .alloc t=>(qn E t).bind λti=>bif JO ti.ks then(fresh nm).bind λ_=> .ret ⟨aj,(cG nm, .o (.box (ti.ks.map AE)))::dw o (.v ao [.bp nm 0])⟩else .fail
 | .box t x=>(DQ x).bind λ
  | .v _ xs=>(fresh nm).bind λ_=> .ret ⟨aj,(cG nm, .o (.box xs))::dw o (.v ao [.bp nm 0])⟩
  |_=> .fail
 | .build t ps=>(qn E t).bind λti=>bif JO ti.ks&&ti.agg then(DR E t ps.toList).bind λl=>val o (.v aj (Jn (ti.ks.map AE) l))else .fail
 | .buildSlice t n ps=>(qn E t).bind λti=>match ti.agg,ti.ks with
  |false,[.l e]=>(qn E e).bind λte=>bif JO te.ks then(Ji ps.toList).bind λex=>(Hh (ex&&flat E te.ks) te.ks ps.toList (aR te.ks n)).bind λ(xs,w)=>(fresh nm).bind λ_=>
   .ret ⟨eG (n*te.ks.length) 16777216&&ry (w.map (·.1)),w++(cG nm, .o (.row e (ex&&flat E te.ks) xs))::dw o (.v ao [.own nm])⟩else .fail
  |_,_=> .fail
 | .load t p=>(qn E t).bind λti=>(qf p).bind λp=>(qz E ti p).bind λxs=>val o (.v ti.agg xs)
 | .store t p x=>(qn E t).bind λti=>(qf p).bind λp=>(DQ x).bind λ
  | .v _ ys=>bif bA ys.length ti.ks.length then(QK E p ys).bind λw=> .ret ⟨aj,w++dw o .un⟩else .fail
  |_=> .fail
 | .fieldAddr t p f=>(qf p).bind λp=>(N3 E t f p).bind λq=>wI o q
 | .field t x f=>(DQ x).bind λ
  | .v aj xs=>match E.fo t f with
   |some (j,n)=>bif E.N8 t f&&bA n 1 then(match xs.drop j with|a::_=>wI o a|[]=> .fail)else .fail
   |none=> .fail
  |_=> .fail
 | .indexAddr t x i=>(oC E t).bind λ
  | .l e=>(qf x).bind λx=>(z_ i).bind λ(_,n)=>(Oz E e x n).bind λ(c,q)=>Il o c q
  |_=> .fail
 | .index t x i=>(oC E t).bind λk=>(qf x).bind λx=>(z_ i).bind λ(_,n)=>match k,x with
  | .s, .s a=>Il o (decide (0<=n)&&decide (n<(a.size:ay))) (.i .u8 ((a.data.getD n.toNat 0).toNat:ay))
  |_,_=> .fail
 | .binOp op t x y _=>(DQ x).bind λx=>(DQ y).bind λy=>(Yw E t op x y).bind λ(c,v)=>Il o c v
 | .unOp op _ x=>(qf x).bind λx=>match op,x with
  | .not, .b x=>wI o (.b (!x))
  | .neg, .i k n=>wI o (.i k (k.wrap (0-n)))
  |_,_=> .fail
 | .convert src dst x=>(oC E src).bind λks=>(oC E dst).bind λkd=>(qf x).bind λx=>match kd,ks,x with
  | .i k, .i _, .i _ n=>wI o (.i k (k.wrap n))
  | .s, .s, .s a=>wI o (.s a)
  | .s, .l e', .nl=>(qn E e').bind λte=>bif Z_ te.ks&& !te.agg then wI o (.s ⟨#[]⟩)else .fail
  | .s, .l e',a=>(kY E a).bind λ(e,xs)=>(qn E e).bind λte=>bif bA e e'&&Z_ te.ks&& !te.agg then Il o (decide (xs.length<=4611686018427387904)) (.s (bytesOf xs))else .fail
  |_,_,_=> .fail
 | .makeSlice t l c=>(z_ l).bind λ(_,n)=>(z_ c).bind λ(_,m)=>(qn E t).bind λti=>match ti.agg,ti.ks with
  |false,[.l e]=>(qn E e).bind λte=>bif JO te.ks&&flat E te.ks then(fresh (bif plain te.ks then nm else nm+999)).bind λ_=> .ret ⟨decide (0<=n)&&decide (n=m)&&cF n.toNat te.bytes,(cG (bif plain te.ks then nm else nm+999), .o (.row e aj (aR te.ks n.toNat)))::dw o (.v ao [.own (bif plain te.ks then nm else nm+999)])⟩else .fail
  |_,_=> .fail
 | .slice t x lo hi mx=>match mx with
  |some _=> .fail
  |none=>(oC E t).bind λk=>(qf x).bind λx=>(Ie E k x lo hi).bind λ(c,v)=>Il o c v
 | .extract x i=>(DQ x).bind λ
  | .jf l=>match l[i]? with|some (agg,xs)=>val o (.v agg xs)|none=> .fail
  |_=> .fail
 | .makeFunc (.func f) first gQ=>bif first.isEmpty then(NM gQ.toList).bind λ(l,ws)=> .ret ⟨aj,ws++dw o (.v ao [.fn f l])⟩else .fail
 | .call c=>match c.callee with
  | .builtin .len=>match c.args.toList,c.argTypes.toList with
   |[x],[t]=>(oC E t).bind λk=>(qf x).bind λx=>(ZB E k x).bind λn=>wI o (.i .i64 n)
   |_,_=> .fail
  | .builtin .cap=>match c.args.toList,c.argTypes.toList with
   |[x],[t]=>(oC E t).bind λ| .l _=>((qf x).bind λ| .nl=>wI o (.i .i64 0)|_=> .fail)|_=> .fail
   |_,_=> .fail
  | .builtin .min=>match c.args.toList with
   |x::r=>(z_ x).bind λ(k,n)=>(uQ ao r k n).bind λv=>wI o v
   |_=> .fail
  | .builtin .max=>match c.args.toList with
   |x::r=>(z_ x).bind λ(k,n)=>(uQ aj r k n).bind λv=>wI o v
   |_=> .fail
  | .builtin .clear=>match c.args.toList with
   |[x]=>match c.argTypes.toList with
    |[t]=>(oC E t).bind λ| .l e=>((qf x).bind λx=>(NT E e x).bind λw=> .ret ⟨aj,w++dw o (.jf [])⟩)|_=> .fail
    |_=> .fail
   |_=> .fail
  | .builtin .append=>match c.args.toList,c.argTypes.toList with
   |[s,x],[t,u]=>(oC E u).bind λku=>(qf s).bind λs=>(qf x).bind λx=>match ku,x with
    | .i _, .i _ n=>(Q0 E nm t s n).bind λ(b,v,w)=> .ret ⟨b,w++dw o (.v ao [v])⟩
    | .l _,x=>(Dc E nm t s x).bind λ(b,v,w)=> .ret ⟨b,w++dw o (.v ao [v])⟩
    | .s,x=>(Dc E nm t s x).bind λ(b,v,w)=> .ret ⟨b,w++dw o (.v ao [v])⟩
    |_,_=> .fail
   |_,_=> .fail
  | .value f=>(qf f).bind λ
   | .fn f gQ=>match c.args.toList,gQ with
    |[x,y],[]=>(DQ x).bind λ
     | .v ao [.la n i j]=>bif E.mode f 0 then zS E o f n i j y else Jb E nm o f c.args.toList c.argTypes.toList gQ
     |_=>Jb E nm o f c.args.toList c.argTypes.toList gQ
    |_,_=>Jb E nm o f c.args.toList c.argTypes.toList gQ
   |_=> .fail
  |_=> .fail
 |_=> .fail
inductive Ex where
 |normal|exit (id:aG)|ret
structure Lg where
 rs:ax aG
 ws:ax aG
def Js{R:Type}(a:AV)(f:AV->R):R:=
 match a with
 | .i k n=>f (.i k n)| .b x=>f (.b x)| .s x=>f (.s x)| .sh e xs=>f (.sh e xs)| .nl=>f .nl| .own n=>f (.own n)| .vw n lo hi=>f (.vw n lo hi)
 | .bp n j=>f (.bp n j)| .rp n i j=>f (.rp n i j)| .sp e xs i j=>f (.sp e xs i j)| .la n i j=>f (.la n i j)| .ip n i j i2 j2=>f (.ip n i j i2 j2)| .iv n i j lo hi=>f (.iv n i j lo hi)| .fn g gQ=>f (.fn g gQ)| .fp xs j=>f (.fp xs j)
def Dp{R:Type}(a:aU)(f:aU->R):R:=match a with|true=>f aj|false=>f ao
def nT{R:Type}:ax AV->(ax AV->R)->R
 |[],f=>f []|a::r,f=>Js a λa=>nT r λr=>f (a::r)
def Ds{R:Type}:ax (aU×ax AV)->(ax (aU×ax AV)->R)->R
 |[],f=>f []|(g,xs)::r,f=>Dp g λg=>nT xs λxs=>Ds r λr=>f ((g,xs)::r)
def Dq{R:Type}(v:SV)(f:SV->R):R:=
 match v with
 | .v g xs=>Dp g λg=>nT xs λxs=>f (.v g xs)| .jf l=>Ds l λl=>f (.jf l)| .un=>f .un
def Ht{R:Type}(o:Obj)(f:Obj->R):R:=
 match o with
 | .box xs=>nT xs λxs=>f (.box xs)| .mV cs=>f (.mV cs)| .row e ex xs=>Dp ex λex=>f (.row e ex xs)| .eU e xs=>f (.eU e xs)| .dead=>f .dead
def Hs{R:Type}(c:dS)(f:dS->R):R:=
 match c with
 | .v x=>Dq x λx=>f (.v x)| .o x=>Ht x λx=>f (.o x)| .iN=>f .iN
def zH{R:Type}:ax (aG×dS)->(ax (aG×dS)->R)->R
 |[],f=>f []|(k,c)::r,f=>Hs c λc=>zH r λr=>f ((k,c)::r)
theorem Hr{R:Type}(a:AV)(f:AV->R):Js a f=f a:=by cases a<;>rfl
theorem wj{R:Type}(a:aU)(f:aU->R):Dp a f=f a:=by cases a<;>rfl
theorem mC{R:Type}:∀(l:ax AV) (f:ax AV->R),nT l f=f l
 |[],_=>rfl
 |a::r,f=>by simp only[nT,Hr,mC r]
theorem BZ{R:Type}:∀(l:ax (aU×ax AV)) (f:ax (aU×ax AV)->R),Ds l f=f l
 |[],_=>rfl
 |(g,xs)::r,f=>by simp only[Ds,wj,mC,BZ r]
theorem Hu{R:Type}(v:SV)(f:SV->R):Dq v f=f v:=by cases v<;>simp only[Dq,wj,mC,BZ]
theorem K7{R:Type}(v:Obj)(f:Obj->R):Ht v f=f v:=by cases v<;>simp only[Ht,wj,mC]
theorem K6{R:Type}(v:dS)(f:dS->R):Hs v f=f v:=by cases v<;>simp only[Hs,Hu,K7]
theorem B0{R:Type}:∀(l:ax (aG×dS)) (f:ax (aG×dS)->R),zH l f=f l
 |[],_=>rfl
 |(k,c)::r,f=>by simp only[zH,K6,B0 r]
def ops{R:Type}(E:eL)(all:cX eD)(mX:aG):aG->ax eD->St->ax Lg->(St->ax Lg->aA R)->aA R
 |_,[],σ,lg,K=>K σ lg
 |i,o::rest,σ,lg,K=>match o.guard with
  |none=>match (kH E ((mX+1)*1000000+i*1000) o).run σ []with
   |some (e,l)=>bif e.cond then zH e.ws (λws=>ops E all mX (i+1) rest (wr σ ws) (⟨l,ws.map (·.1)⟩::lg) K)else ai
   |none=>ai
  |some (g,want)=>match (all.getD g default).dst with
   |none=>ai
   |some d=>match σ (o0 d)with
    | .v (.v ao [.b x])=>
     let perform:=λy=>match (kH E ((mX+1)*1000000+i*1000) o).run (nE σ (o0 d) (.v (.v ao [.b y]))) []with
      |some (e,l)=>bif e.cond then zH e.ws (λws=>ops E all mX (i+1) rest (wr (nE σ (o0 d) (.v (.v ao [.b y]))) ws) (⟨o0 d::l,ws.map (·.1)⟩::lg) K)else ai
      |none=>ai
     let skip:=λy=>ops E all mX (i+1) rest (wr (nE σ (o0 d) (.v (.v ao [.b y]))) (dw o (.jf []))) (⟨[o0 d],(dw o (.jf [])).map (·.1)⟩::lg) K
     bif x then(bif want then perform aj else skip aj)else(bif want then skip ao else perform ao)
    | .v (.jf [])=>ops E all mX (i+1) rest (wr σ (dw o (.jf []))) (⟨[o0 d],(dw o (.jf [])).map (·.1)⟩::lg) K
    |_=>ai
def YG(acc:ax aG):ax aG->ax aG
 |[]=>acc|n::r=>bif ld n acc then YG acc r else YG (n::acc) r
def lA{R:Type}:ax aG->(ax aG->R)->R
 |[],f=>f []|n::r,f=>lA r λr=>f (n::r)
def yJ{R:Type}:ax (ax aG)->(ax (ax aG)->R)->R
 |[],f=>f []|n::r,f=>lA n λn=>yJ r λr=>f (n::r)
theorem nA{R:Type}:∀(l:ax aG) (f:ax aG->R),lA l f=f l
 |[],_=>rfl
 |n::r,f=>by simp only[lA,nA r]
theorem zG{R:Type}:∀(l:ax (ax aG)) (f:ax (ax aG)->R),yJ l f=f l
 |[],_=>rfl
 |n::r,f=>by simp only[yJ,nA,zG r]
theorem Di:∀(l acc:ax aG) (x:aG),x∈YG acc l->x∈acc\/x∈l
 |[],_,_,h=> .inl h
 |n::r,acc,x,h=>by
  unfold YG at h;cases hb:ld n acc with
  |true=>
   rw[hb]at h;rcases Di r acc x h with h|h
   ·exact .inl h
   ·exact .inr (cg _ h)
  |false=>
   rw[hb]at h;rcases Di r (n::acc) x h with h|h
   ·rcases b7.1 h with rfl|h
    ·exact .inr cw
    ·exact .inl h
   ·exact .inr (cg _ h)
def Db:ax (ax aG)->ax eD->ax (ax aG)
 |acc,[]=>acc
 |acc,o::r=>lA (YG [] (o.after.toList.flatMap λe=>bif ll .any e then e.on::acc.getD e.on []else [])) λx=>Db (acc++[x]) r
def FW:aG->ax eD->aU
 |_,[]=>aj
 |i,o::r=>(o.after.toList.all λe=> !Region.binds .any e||Nat.blt e.on i)&&FW (i+1) r
def zu(a b:Lg):aU:= !(pZ a.ws b.ws&&pZ a.ws b.rs&&pZ b.ws a.rs)
def yD(an:ax aG)(j:aG)(a:Lg):aG->ax Lg->aU
 |_,[]=>aj
 |i,b::r=>(ld i an|| !zu a b)&&yD an j a (i+1) r
def calm:aG->ax (ax aG)->ax Lg->ax Lg->aU
 |_,_,_,[]=>aj
 |j,an,done,a::r=>yD (an.getD j []) j a 0 done&&calm (j+1) an (done++[a]) r
def yI{R:Type}:ax Lg->(ax Lg->R)->R
 |[],f=>f []|a::r,f=>lA a.rs λrs=>lA a.ws λws=>yI r λr=>f (⟨rs,ws⟩::r)
theorem zF{R:Type}:∀(l:ax Lg) (f:ax Lg->R),yI l f=f l
 |[],_=>rfl
 |n::r,f=>by simp only[yI,nA,zF r]
def Jc(an:ax (ax aG))(l:ax Lg):aU:=yJ an λan=>yI l λl=>calm 0 an [] l
theorem NL(an:ax (ax aG))(l:ax Lg):Jc an l=calm 0 an [] l:=by simp only[Jc,zG,zF]
def bm:AV->ax aG
 | .own n=>[n]| .vw n _ _=>[n]| .bp n _=>[n]| .rp n _ _=>[n]| .la n _ _=>[n]| .ip n _ _ _ _=>[n]| .iv n _ _ _ _=>[n]|_=>[]
def b8:SV->ax aG
 | .v _ xs=>xs.flatMap bm| .jf l=>l.flatMap λ(_,xs)=>xs.flatMap bm| .un=>[]
def RX:ax aG->ax aG->ax aG
 |l,[]=>l
 |l,n::r=>lA (bif ld n l then l else l++[n]) λl=>RX l r
def slot(σ:St)(n:aG):SV:=match σ (o0 n)with| .v x=>x|_=> .un
def adn(σ:St)(nm:aG):ax aG:=match σ (cG nm)with| .o (.box xs)=>xs.flatMap bm|_=>[]
def idx(n:aG):aG->ax aG->aA aG
 |_,[]=>ai|i,m::r=>bif bA n m then ah i else idx n (i+1) r
def enc(f:aU)(k:aG):aG:=bif f then k*1000+999 else k
def sV(l:ax aG)(n:aG):aA aG:=bif eG 900000000 n then(bif ld n l then ah n else ai)else(match idx n 0 l with|some k=>ah (enc (tX n) k)|none=>ai)
def nZ(l:ax aG)(a:AV):AV:=
 match a with
 | .own n=>match sV l n with|some k=> .own k|none=> .nl
 | .vw n lo hi=>match sV l n with|some k=> .vw k lo hi|none=> .nl
 | .bp n j=>match sV l n with|some k=> .bp k j|none=> .nl
 | .rp n i j=>match sV l n with|some k=> .rp k i j|none=> .nl
 | .la n i j=>match sV l n with|some k=> .la k i j|none=> .nl
 | .ip n i j i2 j2=>match sV l n with|some k=> .ip k i j i2 j2|none=> .nl
 | .iv n i j lo hi=>match sV l n with|some k=> .iv k i j lo hi|none=> .nl
 |a=>a
def wm(l:ax aG)(ns:ax aG):aU:=ns.all λn=>ld n l
def Cg(l:ax aG)(v:SV):SV:=
 bif wm l (b8 v)then(match v with
 | .v agg xs=> .v agg (xs.map (nZ l))| .jf r=> .jf (r.map λ(g,xs)=>(g,xs.map (nZ l)))| .un=> .un)else .un
def LR(l:ax aG)(o:dS):dS:=
 match o with
 | .o (.box xs)=>bif wm l (xs.flatMap bm)then .o (.box (xs.map (nZ l)))else .o .dead
 | .o x=> .o x
 |_=> .o .dead
def eJ:ax (aG×dS)->St
 |[],_=> .iN
 |(k,c)::r,n=>bif bA n k then c else eJ r n
def tG(σ:St)(l:ax aG):ax aG->ax (aG×dS)
 |[]=>[]|n::r=>match sV l n with|some k=>(cG k,LR l (σ (cG n)))::tG σ l r|none=>tG σ l r
def Hd(keep:ax aG)(σ:St):ax aG:=
 lA (RX [] (keep.flatMap λn=>b8 (slot σ n))) λl0=>lA (RX l0 (l0.flatMap (adn σ))) λl1=>RX l1 (l1.flatMap (adn σ))
def Hc(keep:ax aG)(σ:St)(l:ax aG):ax (aG×dS):=
 bif eG l.length 900 then keep.map (λn=>(o0 n, .v (Cg l (slot σ n))))++tG σ l l else []
def Ta(x:aG):aU:=eG 1000000000000000 x
def V1(x:aG):aG:=(x/1000000)%1000000000
def OK(x:aG):aG:=(x/1000)%1000
def Zv(x:aG):aG:=x%1000
def kNm(x:aG):aG:=800000000+((x/1000)%1000000)*100
def w7{α:Type}(x:aG)(σ:St)(f:St->α):α:=
 match slot σ (V1 x)with
 | .v ao [.bp nm 0]=>match σ (cG nm),σ (cG (kNm x))with
  | .o (.box xs), .iN=>match xs[OK x]? with
   |some .nl=>nT (xs.set (OK x) (.own (kNm x))) λys=>f (nE (nE σ (cG nm) (.o (.box ys))) (cG (kNm x)) (.o (.row (Zv x) aj [])))
   |_=>f σ
  |_,_=>f σ
 |_=>f σ
def JL{α:Type}:ax aG->St->(St->α)->α
 |[],σ,f=>f σ
 |x::r,σ,f=>bif Ta x then w7 x σ (λσ=>JL r σ f)else JL r σ f
def He(keep:ax aG)(σ:St):ax (aG×dS):=JL keep σ λσ=>lA (keep.filter λx=> !Ta x) λkeep=>lA (Hd keep σ) λl=>Hc keep σ l
def canon(keep:ax aG)(σ:St):St:=eJ (He keep σ)
def eL.wY(E:eL)(n:aG):ax aG:=(E.keep n).filter λx=>bif Ta x then(match E.ty (Zv x)with|some _=>aj|none=>ao)else aj
def fG:Code->aG
 | .region id _ _=>id| .seq a _=>fG a| .block _ c=>fG c| .scope c=>fG c|_=>0
def B5{R:Type}(g:St->aA R)(cn:St->St)(K:Ex->St->aA R):Ex->St->aA R
 | .normal,σ=>g (cn σ)
 |e,σ=>K e (cn σ)
def iter{R:Type}(f:St->(Ex->St->aA R)->aA R)(cn:St->St):aG->St->(Ex->St->aA R)->aA R
 |0,_,_=>ai
 |n+1,σ,K=>f σ (B5 (λs=>iter f cn n s K) cn K)
theorem Ls{R:Type}(f:St->(Ex->St->aA R)->aA R)(cn:St->St)(n:aG)(σ:St)(K:Ex->St->aA R):iter f cn (n+1) σ K=f σ (B5 (λs=>iter f cn n s K) cn K):=rfl
abbrev It(R:Type):=aG->(St->(Ex->St->aA R)->aA R)->(St->St)->ax (aG×dS)->(Ex->St->aA R)->aA R
def aoZ{R:Type}(n:aG):It R:=λ_ f cn L K=>iter f cn n (eJ L) K
def amU{R:Type}(f:St->(Ex->St->aA R)->aA R)(K:Ex->St->aA R):Ex->St->aA R
 | .normal,σ=>f σ K
 |e,σ=>K e σ
def ajo{R:Type}(id:aG)(K:Ex->St->aA R):Ex->St->aA R
 | .exit j,σ=>bif bA j id then K .normal σ else K (.exit j) σ
 |e,σ=>K e σ
def q_{R:Type}(E:eL)(it:It R):Code->St->(Ex->St->aA R)->aA R
 | .skip,σ,K=>K .normal σ
 | .region id os draw,σ,K=>ops E os id 0 os.toList σ [] λσ lg=>bif !draw||(FW 0 os.toList&&Jc (Db [] os.toList) lg.reverse)then K .normal σ else ai
 | .seq a b,σ,K=>q_ E it a σ (amU (q_ E it b) K)
 | .cond c a b,σ,K=>match c with
  | .tmp t=>match σ (o0 t)with
   | .v (.v ao [.b x])=>bif x then(q_ E it a (nE σ (o0 t) (.v (.v ao [.b aj]))) K)else(q_ E it b (nE σ (o0 t) (.v (.v ao [.b ao]))) K)
   |_=>ai
  |_=>ai
 | .block id c,σ,K=>q_ E it c σ (ajo id K)
 | .loop c,σ,K=>it (fG c) (q_ E it c) (canon (E.wY (fG c))) (He (E.wY (fG c)) σ) K
 | .exit id,σ,K=>K (.exit id) σ
 | .ret,σ,K=>K .ret σ
 |_,_,_=>ai
def iV:Code->ax Code
 | .seq a b=>iV a++iV b
 | .cond _ a b=>iV a++iV b
 | .block _ c=>iV c
 | .loop c=>c::iV c
 |_=>[]
def zT(mX:aG):Code->aA Code
 | .seq a b=>match zT mX a with|some r=>ah r|none=>zT mX b
 | .cond _ a b=>match zT mX a with|some r=>ah r|none=>zT mX b
 | .block _ c=>zT mX c
 | .loop c=>bif bA (fG c) mX then ah c else zT mX c
 |_=>ai
def cB(F:Func)(mX:aG):Code:=((F.body.bind (zT mX)).getD .skip)
end Go.FG

namespace Go.FG
def dC(p j:aG):aG:=900000000+p*1000+j
def jU(nm:aG)(a:AA):AV:=
 match a with
 | .i k n=> .i k n| .b x=> .b x| .s x=> .s x| .sh e xs=> .sh e xs| .nl=> .nl
 | .ow _ _ _=> .own nm| .kp _=> .nl| .fn f gQ=> .fn f gQ
def FD(nm:aG)(a:AA):ax (aG×dS):=match a with| .ow e ex xs=>[(cG nm, .o (.row e ex xs))]|_=>[]
def fB(nm:aG):ax AA->ax AV
 |[]=>[]|a::r=>jU nm a::fB (nm+1) r
def tB(nm:aG):ax AA->ax (aG×dS)
 |[]=>[]|a::r=>FD nm a++tB (nm+1) r
def qy(p:aG)(a:eu):SV:=
 match a with
 | .v agg xs=> .v agg (fB (dC p 0) xs)
 | .pt _=> .v ao [.bp (dC p 900) 0]
 | .fb xs=> .v ao [.fp xs 0]
def uK(p:aG)(a:eu):ax (aG×dS):=
 match a with
 | .v _ xs=>tB (dC p 0) xs
 | .pt xs=>(cG (dC p 900), .o (.box (fB (dC p 0) xs)))::tB (dC p 0) xs
 | .fb _=>[]
def HI:aG->ax eu->ax (aG×dS)
 |_,[]=>[]|p,a::r=>(o0 p, .v (qy p a))::uK p a++HI (p+1) r
def inj(args:ax eu):St:=eJ (HI 0 args)
def wV(E:eL)(e:aG):aU:=match E.ty e with|some _=>aj|none=>ao
def wU(E:eL)(om:Om)(σ:St)(k:Ck)(a:AV):aA (AA×ax aG×ax aG):=
 match a with
 | .i k n=>ah (.i k n,[],[])| .b x=>ah (.b x,[],[])| .s x=>ah (.s x,[],[])
 | .sh e xs=>match om with| .own _=>ai|_=>ah (.sh e xs,[],[])
 | .nl=>match om with
  | .own e=>bif wV E e then ah (.ow e aj [],[],[])else ai
  | .sh e=>ah (.sh e [],[],[])
  | .nat=>match k with| .l e=>bif wV E e then ah (.ow e aj [],[],[])else ai|_=>ah (.nl,[],[])
 | .own nm=>match σ (cG nm)with
  | .o (.row e ex xs)=>match om with| .sh _=>ah (.sh e xs,[],[nm])|_=>ah (.ow e ex xs,[nm],[])
  | .o (.eU e xs)=>match om with| .own _=>ai|_=>ah (.sh e xs,[],[])
  |_=>ai
 | .vw nm lo hi=>match σ (cG nm)with
  | .o (.row e ex xs)=>match om with| .sh _=>ah (.sh e (dR xs lo hi),[],[nm])|_=>ah (.ow e ex (dR xs lo hi),[nm],[])
  | .o (.eU e xs)=>match om with| .own _=>ai|_=>ah (.sh e (dR xs lo hi),[],[])
  |_=>ai
 |_=>ai
def rh(E:eL)(q:aG)(σ:St):aG->ax Ck->ax AV->aA (ax AA×ax aG×ax aG)
 |_,_,[]=>ah ([],[],[])
 |j,ks,a::r=>match wU E (E.om q j) σ (ks.headD .o) a,rh E q σ (j+1) ks.tail r with
  |some (x,l,m),ah (xs,ls,ms)=>ah (x::xs,l++ls,m++ms)
  |_,_=>ai
def Jp(E:eL)(q:aG)(σ:St)(ks:ax Ck)(v:SV):aA (eu×ax aG×ax aG):=
 match v with
 | .v ao [.bp nm 0]=>match σ (cG nm)with
  | .o (.box xs)=>match rh E q σ 0 [] xs with|some (l,ns,ms)=>ah (.pt l,nm::ns,ms)|none=>ai
  |_=>ai
 | .v agg xs=>match rh E q σ 0 ks xs with|some (l,ns,ms)=>ah (.v agg l,ns,ms)|none=>ai
 |_=>ai
def P0(E:eL)(q:aG)(σ:St)(r:ResultVar)(t:aG):aA (eu×ax aG×ax aG):=
 match E.ty t with
 |none=>ai
 |some ti=>match r with
  | .tmp s=>Jp E q σ ti.ks (slot σ s)
  | .cell a t'=>match E.ty t',slot σ a with
   |some Rs, .v ao [.bp nm 0]=>match σ (cG nm)with| .o (.box xs)=>bif bA xs.length Rs.ks.length then Jp E q σ ti.ks (.v Rs.agg xs)else ai|_=>ai
   |_,_=>ai
def Aj(E:eL)(σ:St):aG->ax ResultVar->ax aG->aA (ax eu×ax aG×ax aG)
 |_,[],_=>ah ([],[],[])
 |q,r::rs,ts=>match P0 E q σ r (ts.headD 0),Aj E σ (q+1) rs ts.tail with
  |some (a,l,m),ah (as,ls,ms)=>ah (a::as,l++ls,m++ms)
  |_,_=>ai
def Ge(a b:aU):aU:=bif a then b else !b
def mf(σ:St)(tk:ax aG)(nm:aG)(a:AA):AA×ax aG:=
 match a with
 | .ow e ex _=>bif ld nm tk then(.nl,[])else(match σ (cG nm)with| .o (.row e' rW xs)=>bif bA e e'&&Ge ex rW then(.kp xs,[nm])else(.nl,[])|_=>(.nl,[]))
 |_=>(.nl,[])
def oA(σ:St)(tk:ax aG)(nm:aG):ax AA->ax AA×ax aG
 |[]=>([],[])|a::r=>((mf σ tk nm a).1::(oA σ tk (nm+1) r).1,(mf σ tk nm a).2++(oA σ tk (nm+1) r).2)
def Vi(E:eL)(om:Om)(σ:St)(nm:aG)(b:AA)(a:AV):aA (AA×ax aG×ax aG):=
 match om,b,a with
 | .nat, .ow e ex _, .own n=>bif bA n nm then(match σ (cG n)with| .o (.row e' rW xs)=>bif bA e e'&&Ge ex rW then ah (.kp xs,[n],[])else ai|_=>ai)else wU E om σ .o a
 |_,_,a=>wU E om σ .o a
def Dg(E:eL)(q:aG)(σ:St):aG->ax AA->ax AV->aA (ax AA×ax aG×ax aG)
 |_,_,[]=>ah ([],[],[])
 |j,bs,a::r=>match Vi E (E.om q j) σ (dC q j) (bs.headD .nl) a,Dg E q σ (j+1) bs.tail r with
  |some (x,l,m),ah (xs,ls,ms)=>ah (x::xs,l++ls,m++ms)
  |_,_=>ai
def Of:ax AA->aU
 |[]=>ao| .ow _ _ _::_=>aj|_::r=>Of r
def Ad(E:eL)(σ:St)(tk:ax aG):aG->ax eu->aA (ax (ax AA)×ax aG×ax aG)
 |_,[]=>ah ([],[],[])
 |p,a::r=>match Ad E σ tk (p+1) r with
  |none=>ai
  |some (l,ns,ms)=>match a with
   | .v _ xs=>bif Of xs then ah ((oA σ tk (dC p 0) xs).1::l,(oA σ tk (dC p 0) xs).2++ns,ms)else ah ([]::l,ns,ms)
   | .pt xs=>match σ (cG (dC p 900))with
    | .o (.box vs)=>match Dg E p σ 0 xs vs with|some (as,ns',ms')=>ah (as::l,dC p 900::(ns'++ns),ms'++ms)|none=>ai
    |_=>ai
   | .fb _=>ah ([]::l,ns,ms)
def rV:ax (ax AA)->ax (ax AA)
 |[]=>[]
 |x::r=>match x,rV r with|[],[]=>[]|x,r=>x::r
def fin(E:eL)(F:Func)(args:ax eu)(e:Ex)(σ:St):aA Res:=
 match e with
 | .exit _=>ai
 |_=>match Aj E σ 500 F.results.toList F.resultTypes.toList with
  |some (rs,tk,fz)=>match Ad E σ (tk++fz) 0 args with
   |some (outs,ns,ms)=>bif ry (tk++ns)&&pZ (tk++ns) (fz++ms)&&eG args.length 500&&(args.all λa=>eG (lY a) 100)&&(rs.all λa=>eG (lY a) 100)&&(outs.all λa=>eG a.length 100)then ah ⟨rs,rV outs⟩else ai
   |none=>ai
  |none=>ai
def body(E:eL)(it:It Res)(F:Func)(args:ax eu):aA Res:=
 match F.body with
 |some c=>q_ E it c (inj args) (fin E F args)
 |none=>ai
end Go.FG

namespace Go.FG
structure Pl where
 nil:aU
 blk:aG
 off:aG
 cap:aG
 n:aG
 sz:aG
def mb(p:Pl):a7:=if p.nil=aj then .slice ai 0 0 else .slice (ah ⟨p.blk,p.off,ai⟩) p.n p.cap
def o4(w:bw)(b:aG)(vals:cX a7):Prop:=
 ∃t fr,w.heap[b]? =ah (.cells vals t fr)/\∀o,o<=vals.size->(decide (fr.1<=o)&&decide (o<fr.2))=ao
def L5:CV->a7
 | .i k n=> .int k n| .b x=> .bool x| .s x=> .string x| .l _ _=> .nilIface
def GF(x:aq):Prop:=x.size<=4611686018427387904
def okC:CV->Prop
 | .s x=>GF x|_=>True
def Sc(u:a7)(x:CV):Prop:=u=L5 x/\okC x
structure dZ where
 P:aG->Pl
 G:aG->aG->aG->Pl
 K:aG->Prop
abbrev ad(b o:aG):Addr:=⟨b,o,ai⟩
inductive cK (E:Tab) (w:bw) (K:aG->Prop):a7->CV->Prop
 |i (k n):cK E w K (.int k n) (.i k n)
 |b (x):cK E w K (.bool x) (.b x)
 |s (x) (h:GF x):cK E w K (.string x) (.s x)
 |nl (e A c):cK E w K (.slice A 0 c) (.l e [])
 |l (e xs b o c ti) (U:aG->aG->a7) (ht:E.ty e=ah ti) (hc:xs.length<=c) (hm:c<=maxLen) (hK:K b) (hs:∀y∈xs,y.map CV.kd=ti.ks)
  (hcell:∀i j y x,xs[i]? =ah y->y[j]? =ah x->w.cell? (ad b (o+i*ti.ks.length+j))=ah (U i j))
  (g6:∀i j y x,xs[i]? =ah y->y[j]? =ah x->cK E w K (U i j) x):cK E w K (.slice (ah (ad b o)) xs.length c) (.l e xs)
theorem o4.cell{w:bw}{b:aG}{vals:cX a7}(h:o4 w b vals)(o:aG):w.cell? (ad b o)=vals[o]? :=by obtain⟨t,fr,h,_⟩:=h;simp[yq,h]
theorem o4.lt{w:bw}{b:aG}{vals:cX a7}(h:o4 w b vals):b<w.heap.size:=by obtain⟨t,fr,h,_⟩:=h;exact(c8.1 h).1
theorem o4.free{w:bw}{b:aG}{vals:cX a7}(h:o4 w b vals){o:aG}(ho:o<vals.size):w.frozen? (ad b o)=false:=by obtain⟨t,fr,h,hf⟩:=h;have:=hf o (Nat.le_of_lt ho);simpa [World.frozen?,h]using this
theorem o4.frame{w w':bw}{b:aG}{vals:cX a7}(h:o4 w b vals)(e:w'.heap[b]? =w.heap[b]?):o4 w' b vals:=by obtain⟨t,fr,h,hf⟩:=h;exact⟨t,fr,e.trans h,hf⟩
theorem cK.frame{E:Tab}{w w':bw}{K K':aG->Prop}{v:a7}{x:CV}(h:cK E w K v x)(hw:∀b,K b->w'.heap[b]? =w.heap[b]?)(hK:∀b,K b->K' b):cK E w' K' v x:=by
 induction h with
 |i=>exact .i _ _
 |b=>exact .b _
 |s x h=>exact .s _ h
 |nl=>exact .nl _ _ _
 |l e xs b o c ti U ht hc hm hKb hs hcell g6 ih=>exact .l e xs b o c ti U ht hc hm (hK b hKb) hs (λi j y x h1 h2=>(GY (a:=ad b _) (hw b hKb)).trans (hcell i j y x h1 h2)) (λi j y x h1 h2=>ih i j y x h1 h2)
structure ij (w:bw) (p:Pl) (xs:Row) (R:aG->aG->a7->CV->Prop):Prop where
 n:p.n=xs.length
 nil:p.nil=aj->xs=[]/\p.cap=0
 mem:p.nil=ao->∃vals,o4 w p.blk vals/\p.n<=p.cap/\p.cap<=maxLen/\p.off+p.cap*p.sz<=vals.size/\
  ∀(i:aG) (y:ax CV) (j:aG) (x:CV),xs[i]? =ah y->y[j]? =ah x->∃u:a7,vals[p.off+i*p.sz+j]? =ah u/\R i j u x
def XC(E:Tab)(w:bw)(G:aG->aG->Pl)(i j:aG)(u:a7):CV->Prop
 | .l e ys=>u=mb (G i j)/\∃ti,E.ty e=ah ti/\plain ti.ks=aj/\(G i j).sz=ti.ks.length/\(∀y∈ys,y.map CV.kd=ti.ks)/\ij w (G i j) ys (λ_ _ u x=>Sc u x)
 |x=>Sc u x
def sI:CV->aU| .l _ _=>aj|_=>ao
def fC(xs:Row)(i j:aG):Prop:=∃y x,xs[i]? =ah y/\y[j]? =ah x/\sI x=aj
structure CF (p:Pl) (G:aG->aG->Pl) (xs:Row):Prop where
 out:∀i j,fC xs i j->(G i j).nil=ao->p.nil=ao->(G i j).blk≠p.blk
 one:∀i j i' j',fC xs i j->fC xs i' j'->(G i j).nil=ao->(G i' j').nil=ao->(G i j).blk=(G i' j').blk->i=i'/\j=j'
structure IV (E:Tab) (w:bw) (c:dZ) (nm e:aG) (ex:aU) (xs:Row):Prop where
 sh:∃ti,E.ty e=ah ti/\(c.P nm).sz=ti.ks.length/\∀y∈xs,y.map CV.kd=ti.ks
 at_:ij w (c.P nm) xs (λi j u x=>if ex=aj then XC E w (c.G nm) i j u x else cK E w c.K u x)
 la:ex=aj->CF (c.P nm) (c.G nm) xs
def FB(E:Tab)(w:bw)(K:aG->Prop)(b:aG)(cs:ax CV):Prop:=
 K b/\∀(q:aG) (x:CV),cs[q]? =ah x->∃u:a7,w.cell? (ad b q)=ah u/\cK E w K u x
def tn(p:Pl)(lo hi:aG)(v:a7):Prop:=
 lo<=hi/\hi<=p.n/\(p.nil=aj->v= .slice ai 0 0)/\
 (p.nil=ao->(lo<p.cap/\v= .slice (ah (ad p.blk (p.off+lo*p.sz))) (hi-lo) (p.cap-lo))\/(lo=p.cap/\∃o,o<=p.off+p.cap*p.sz/\v= .slice (ah (ad p.blk o)) 0 0))
def dN(E:Tab)(w:bw)(c:dZ):AV->a7->Prop
 | .i k n,v=>v= .int k n
 | .b x,v=>v= .bool x
 | .s x,v=>v= .string x/\GF x
 | .sh e xs,v=>cK E w c.K v (.l e xs)
 | .nl,v=>v= .slice ai 0 0
 | .own nm,v=>v=mb (c.P nm)
 | .vw nm lo hi,v=>tn (c.P nm) lo hi v
 | .bp nm j,v=>v= .pointer (ah (ad (c.P nm).blk j))
 | .rp nm i j,v=>i<(c.P nm).n/\v= .pointer (ah (ad (c.P nm).blk ((c.P nm).off+i*(c.P nm).sz+j)))
 | .sp e xs i j,v=>∃b o cp ti,cK E w c.K (.slice (ah (ad b o)) xs.length cp) (.l e xs)/\i<xs.length/\E.ty e=ah ti/\v= .pointer (ah (ad b (o+i*ti.ks.length+j)))
 | .la nm i j,v=>(i<(c.P nm).n/\v=mb (c.G nm i j))/\tX nm=ao
 | .ip nm i j i2 j2,v=>(i<(c.P nm).n/\i2<(c.G nm i j).n/\v= .pointer (ah (ad (c.G nm i j).blk ((c.G nm i j).off+i2*(c.G nm i j).sz+j2))))/\tX nm=ao
 | .iv nm i j lo hi,v=>(i<(c.P nm).n/\tn (c.G nm i j) lo hi v)/\tX nm=ao
 | .fn f gQ,v=>∃ps:cX a7,v= .func (.func f) #[] ps/\ps.size=gQ.length/\∀(q:aG) (cs:ax CV),gQ[q]? =ah cs->∃b:aG,ps[q]? =ah (.pointer (ah (ad b 0)))/\FB E w c.K b cs
 | .fp cs j,v=>∃b,v= .pointer (ah (ad b j))/\FB E w c.K b cs
def o_(E:Tab)(w:bw)(c:dZ)(agg:aU)(xs:ax AV)(v:a7):Prop:=
 match agg,xs with
 |false,[a]=>dN E w c a v
 |true,xs=>∃vals:cX a7,v= .agg vals/\vals.size=xs.length/\∀(j:aG) (a:AV),xs[j]? =ah a->∃u:a7,vals[j]? =ah u/\dN E w c a u
 |_,_=>False
def ic(E:Tab)(w:bw)(c:dZ):SV->a7->Prop
 | .v agg xs,v=>o_ E w c agg xs v
 | .jf l,v=>∃vs:cX a7,v= .tuple vs/\vs.size=l.length/\∀(j:aG) (agg:aU) (xs:ax AV),l[j]? =ah (agg,xs)->∃u:a7,vs[j]? =ah u/\o_ E w c agg xs u
 | .un,_=>True
def ot(E:Tab)(w:bw)(c:dZ)(nm:aG):Obj->Prop
 | .box xs=>∃vals,o4 w (c.P nm).blk vals/\vals.size=xs.length/\∀(j:aG) (a:AV),xs[j]? =ah a->∃u:a7,vals[j]? =ah u/\dN E w c a u
 | .mV cs=>FB E w c.K (c.P nm).blk cs
 | .row e ex xs=>IV E w c nm e ex xs
 | .eU e xs=>cK E w c.K (mb (c.P nm)) (.l e xs)/\(c.P nm).n=xs.length/\∃ti,E.ty e=ah ti/\(c.P nm).sz=ti.ks.length
 | .dead=>True
def eI(c:dZ)(nm:aG):Obj->aG->Prop
 | .box _,b=>b=(c.P nm).blk
 | .row _ ex xs,b=>((c.P nm).nil=ao/\b=(c.P nm).blk)\/(ex=aj/\∃i j,fC xs i j/\(c.G nm i j).nil=ao/\b=(c.G nm i j).blk)
 |_,_=>False
def vq(σ:St)(c:dZ)(b:aG):Prop:=∃nm o,σ (cG nm)= .o o/\eI c nm o b
def iu(σ:St)(a:AV):Prop:=∀n∈bm a,σ (cG n)≠ .iN
def lr(σ:St)(v:SV):Prop:=∀n∈b8 v,σ (cG n)≠ .iN
structure Ok (E:Tab) (σ:St) (w:bw) (c:dZ):Prop where
 obj:∀nm o,σ (cG nm)= .o o->ot E w c nm o
 sep:∀nm o tY o' b,σ (cG nm)= .o o->σ (cG tY)= .o o'->eI c nm o b->eI c tY o' b->nm=tY
 kk:∀nm o b,σ (cG nm)= .o o->eI c nm o b->¬c.K b
 lt:∀b,c.K b->b<w.heap.size
 kn:∀nm xs,σ (cG nm)= .o (.box xs)->∀a∈xs,iu σ a
 gp:E.gp.f w c.K
structure eC (E:Tab) (σ:St) (a:Act) (w:bw) (c:dZ):Prop where
 ok:∀n,ic E w c (slot σ n) (a.eval (.tmp n))
 kn:∀n,lr σ (slot σ n)
 df:a.defers=[]
def iH(σ:St)(c c':dZ):Prop:=∀nm,(σ (cG nm)≠ .iN\/900000000<=nm)->c'.P nm=c.P nm/\c'.G nm=c.G nm
def oH(σ:St)(c c':dZ):Prop:=∀nm,(σ (cG nm)≠ .iN\/900000000<=nm)->c'.P nm=c.P nm/\(tX nm=ao->c'.G nm=c.G nm)
theorem iH.w{σ:St}{c c':dZ}(h:iH σ c c'):oH σ c c':=λnm hn=>⟨(h nm hn).1,λ_=>(h nm hn).2⟩
structure Grow (σ:St) (c:dZ) (w:bw) (σ':St) (c':dZ) (w':bw):Prop where
 os:w'.os=w.os
 tape:w'.tape=w.tape
 output:w'.output=w.output
 size:w.heap.size<=w'.heap.size
 K:∀b,c.K b->c'.K b
 same:∀b,b<w.heap.size->¬vq σ c b->w'.heap[b]? =w.heap[b]?
 own:∀b,vq σ' c' b->vq σ c b\/w.heap.size<=b
 kn:∀b,c'.K b->c.K b\/vq σ c b\/w.heap.size<=b
theorem vq.lt{E:Tab}{σ:St}{w:bw}{c:dZ}(h:Ok E σ w c){b:aG}(ho:vq σ c b):b<w.heap.size:=by
 obtain⟨nm,o,h1,h2⟩:=ho;have mc:=h.obj nm o h1;cases o with
 |box xs=>obtain⟨vals,hb,_⟩:=mc;cases h2;exact hb.lt
 |mV=>exact h2.elim
 |eU=>exact h2.elim
 |dead=>exact h2.elim
 |row e ex xs=>
  rcases h2 with ⟨hn,rfl⟩|⟨hex,i,j,⟨y,x,hy,hx,hl⟩,hn,rfl⟩
  ·obtain⟨vals,hb,_⟩:=mc.at_.mem hn;exact hb.lt
  ·by_cases hp:(c.P nm).nil=aj
   ·have:=(mc.at_.nil hp).1;subst this;simp at hy
   ·obtain⟨vals,hb,_,_,_,hc⟩:=mc.at_.mem (by simpa using hp);obtain⟨u,_,hu⟩:=hc i y j x hy hx;rw[ba hex]at hu;cases x with
    |l e2 ys=>obtain⟨_,ti,_,_,_,_,hr⟩:=hu;obtain⟨v2,hb2,_⟩:=hr.mem hn;exact hb2.lt
    |i=>simp[sI]at hl
    |b=>simp[sI]at hl
    |s=>simp[sI]at hl
theorem Ok.HU{E:Tab}{σ:St}{w:bw}{c:dZ}(h:Ok E σ w c){b:aG}(ho:vq σ c b):¬c.K b:=by obtain⟨nm,o,h1,h2⟩:=ho;exact h.kk nm o b h1 h2
theorem Grow.refl(σ:St)(c:dZ)(w:bw):Grow σ c w σ c w:=
 ⟨rfl,rfl,rfl,bR _,λ_ h=>h,λ_ _ _=>rfl,λ_ h=> .inl h,λ_ h=> .inl h⟩
theorem Grow.trans{σ σ1 σ2:St}{c c1 c2:dZ}{w w1 w2:bw}(h:Grow σ c w σ1 c1 w1)(k:Grow σ1 c1 w1 σ2 c2 w2):Grow σ c w σ2 c2 w2 where
 os:=k.os.trans h.os
 tape:=k.tape.trans h.tape
 output:=k.output.trans h.output
 size:=cm h.size k.size
 K b hb:=k.K b (h.K b hb)
 same b hb hn:=(k.same b (gC hb h.size) (λho=>(h.own b ho).elim hn (λh=>by omega))).trans (h.same b hb hn)
 own b hb:=(k.own b hb).elim (h.own b) (λh1=> .inr (cm h.size h1))
 kn b hb:=by
  rcases k.kn b hb with h1|h1|h1
  ·exact h.kn b h1
  ·exact .inr (h.own b h1)
  ·exact .inr (.inr (cm h.size h1))
theorem Grow.UU{E:Tab}{σ σ':St}{c c':dZ}{w w':bw}(hok:Ok E σ w c)(h:Grow σ c w σ' c' w'):∀b,c.K b->w'.heap[b]? =w.heap[b]? :=
 λb hb=>h.same b (hok.lt b hb) (λho=>hok.HU ho hb)
theorem FB.frame{E:Tab}{w w':bw}{K K':aG->Prop}{b:aG}{cs:ax CV}(h:FB E w K b cs)(hw:∀b,K b->w'.heap[b]? =w.heap[b]?)(hK:∀b,K b->K' b):FB E w' K' b cs:=
 ⟨hK b h.1,λq x hq=>by
  obtain⟨u,hu,hh⟩:=h.2 q x hq;exact⟨u,(GY (a:=ad b q) (hw b h.1)).trans hu,hh.frame hw hK⟩⟩
theorem dN.nU{E:Tab}{w w':bw}{c c':dZ}{a:AV}{v:a7}(h:dN E w c a v)(hw:∀b,c.K b->w'.heap[b]? =w.heap[b]?)(hK:∀b,c.K b->c'.K b)
  (hP:∀n∈bm a,c'.P n=c.P n/\(tX n=ao->c'.G n=c.G n)):dN E w' c' a v:=by
 cases a with
 |i=>exact h
 |b=>exact h
 |s=>exact h
 |nl=>exact h
 |sh e xs=>exact cK.frame h hw hK
 |own n=>have:=hP n (by simp[bm]);simp only[dN,this.1]at h⊢;exact h
 |vw n lo hi=>have:=hP n (by simp[bm]);simp only[dN,this.1]at h⊢;exact h
 |bp n j=>have:=hP n (by simp[bm]);simp only[dN,this.1]at h⊢;exact h
 |rp n i j=>have:=hP n (by simp[bm]);simp only[dN,this.1]at h⊢;exact h
 |la n i j=>have h0:=hP n (by simp[bm]);have this:=h0.2 h.2;simp only[dN,h0.1,this]at h⊢;exact h
 |ip n i j i2 j2=>have h0:=hP n (by simp[bm]);have this:=h0.2 h.2;simp only[dN,h0.1,this]at h⊢;exact h
 |iv n i j lo hi=>have h0:=hP n (by simp[bm]);have this:=h0.2 h.2;simp only[dN,h0.1,this]at h⊢;exact h
 |sp e xs i j=>obtain⟨b,o,cp,ti,h1,h2,h3,h4⟩:=h;exact⟨b,o,cp,ti,h1.frame hw hK,h2,h3,h4⟩
 |fn f gQ=>obtain⟨ps,h1,h2,h3⟩:=h;exact⟨ps,h1,h2,λq cs hq=>by obtain⟨b,hb,hf⟩:=h3 q cs hq;exact⟨b,hb,hf.frame hw hK⟩⟩
 |fp cs j=>obtain⟨b,h1,h2⟩:=h;exact⟨b,h1,h2.frame hw hK⟩
theorem o_.nU{E:Tab}{w w':bw}{c c':dZ}{agg:aU}{xs:ax AV}{v:a7}(h:o_ E w c agg xs v)(hw:∀b,c.K b->w'.heap[b]? =w.heap[b]?)(hK:∀b,c.K b->c'.K b)
  (hP:∀n∈xs.flatMap bm,c'.P n=c.P n/\(tX n=ao->c'.G n=c.G n)):o_ E w' c' agg xs v:=by
 unfold o_ at h⊢;split at h
 ·rename_i a;exact dN.nU h hw hK (λn hn=>hP n (by simpa using hn))
 ·obtain⟨vals,h1,h2,h3⟩:=h;refine⟨vals,h1,h2,λj a hj=> ?_⟩
  obtain⟨u,hu,hv⟩:=h3 j a hj;exact⟨u,hu,hv.nU hw hK (λn hn=>hP n (bz.2 ⟨a,aM hj,hn⟩))⟩
 ·exact h.elim
theorem ic.nU{E:Tab}{w w':bw}{c c':dZ}{s:SV}{v:a7}(h:ic E w c s v)(hw:∀b,c.K b->w'.heap[b]? =w.heap[b]?)(hK:∀b,c.K b->c'.K b)
  (hP:∀n∈b8 s,c'.P n=c.P n/\(tX n=ao->c'.G n=c.G n)):ic E w' c' s v:=by
 cases s with
 |un=>trivial
 |v agg xs=>exact o_.nU h hw hK hP
 |jf l=>
  obtain⟨vs,h1,h2,h3⟩:=h;refine⟨vs,h1,h2,λj agg xs hj=> ?_⟩
  obtain⟨u,hu,hv⟩:=h3 j agg xs hj;exact⟨u,hu,hv.nU hw hK (λn hn=>hP n (bz.2 ⟨(agg,xs),aM hj,hn⟩))⟩
theorem dN.frame{E:Tab}{w w':bw}{c c':dZ}{a:AV}{v:a7}(h:dN E w c a v)(hw:∀b,c.K b->w'.heap[b]? =w.heap[b]?)(hK:∀b,c.K b->c'.K b)
  (hP:∀n∈bm a,c'.P n=c.P n/\c'.G n=c.G n):dN E w' c' a v:=h.nU hw hK (λn hn=>⟨(hP n hn).1,λ_=>(hP n hn).2⟩)
theorem o_.frame{E:Tab}{w w':bw}{c c':dZ}{agg:aU}{xs:ax AV}{v:a7}(h:o_ E w c agg xs v)(hw:∀b,c.K b->w'.heap[b]? =w.heap[b]?)(hK:∀b,c.K b->c'.K b)
  (hP:∀n∈xs.flatMap bm,c'.P n=c.P n/\c'.G n=c.G n):o_ E w' c' agg xs v:=h.nU hw hK (λn hn=>⟨(hP n hn).1,λ_=>(hP n hn).2⟩)
theorem ic.frame{E:Tab}{w w':bw}{c c':dZ}{s:SV}{v:a7}(h:ic E w c s v)(hw:∀b,c.K b->w'.heap[b]? =w.heap[b]?)(hK:∀b,c.K b->c'.K b)
  (hP:∀n∈b8 s,c'.P n=c.P n/\c'.G n=c.G n):ic E w' c' s v:=h.nU hw hK (λn hn=>⟨(hP n hn).1,λ_=>(hP n hn).2⟩)
theorem ij.frame{w w':bw}{p:Pl}{xs:Row}{R R':aG->aG->a7->CV->Prop}(h:ij w p xs R)(hw:p.nil=ao->w'.heap[p.blk]? =w.heap[p.blk]?)
  (hR:∀i j y x u,xs[i]? =ah y->y[j]? =ah x->R i j u x->R' i j u x):ij w' p xs R' where
 n:=h.n
 nil:=h.nil
 mem hn:=by
  obtain⟨vals,h1,h2,h3,h4,h5⟩:=h.mem hn;refine⟨vals,h1.frame (hw hn),h2,h3,h4,λi y j x hi hj=> ?_⟩
  obtain⟨u,hu,hr⟩:=h5 i y j x hi hj;exact⟨u,hu,hR i j y x u hi hj hr⟩
theorem XC.frame{E:Tab}{w w':bw}{G:aG->aG->Pl}{i j:aG}{u:a7}{x:CV}(h:XC E w G i j u x)(hw:sI x=aj->(G i j).nil=ao->w'.heap[(G i j).blk]? =w.heap[(G i j).blk]?):XC E w' G i j u x:=by
 cases x with
 |l e ys=>obtain⟨h1,ti,h2,h3,h4,h5,h6⟩:=h;exact⟨h1,ti,h2,h3,h4,h5,h6.frame (hw rfl) (λ_ _ _ _ _ _ _ h=>h)⟩
 |i=>exact h
 |b=>exact h
 |s=>exact h
theorem ot.frame{E:Tab}{w w':bw}{c c':dZ}{nm:aG}{o:Obj}(h:ot E w c nm o)(hw:∀b,c.K b->w'.heap[b]? =w.heap[b]?)(hK:∀b,c.K b->c'.K b)
  (hf:∀b,eI c nm o b->w'.heap[b]? =w.heap[b]?) (hP:c'.P nm=c.P nm/\c'.G nm=c.G nm)
  (hPs:∀xs,o= .box xs->∀a∈xs,∀n∈bm a,c'.P n=c.P n/\(tX n=ao->c'.G n=c.G n)):ot E w' c' nm o:=by
 cases o with
 |dead=>trivial
 |box xs=>
  obtain⟨vals,h1,h2,h3⟩:=h;refine⟨vals, ?_,h2,λj a hj=> ?_⟩
  ·rw[hP.1];exact h1.frame (hf _ rfl)
  ·obtain⟨u,hu,hv⟩:=h3 j a hj;exact⟨u,hu,hv.nU hw hK (hPs xs rfl a (aM hj))⟩
 |mV cs=>show FB E w' c'.K (c'.P nm).blk cs;rw[hP.1];exact FB.frame h hw hK
 |eU e xs=>
  obtain⟨h1,h2,h3⟩:=h;refine⟨?_, ?_, ?_⟩
  ·rw[hP.1];exact h1.frame hw hK
  ·rw[hP.1];exact h2
  ·rw[hP.1];exact h3
 |row e ex xs=>
  obtain⟨h1,h2,h3⟩:=h;refine⟨by rw[hP.1];exact h1, ?_,by rw[hP.1,hP.2];exact h3⟩
  rw[hP.1,hP.2];refine h2.frame (λhn=>hf _ (.inl ⟨hn,rfl⟩)) (λi j y x u hi hj hr=> ?_);by_cases hx:ex=aj
  ·rw[ba hx]at hr⊢;exact hr.frame (λhl hn=>hf _ (.inr ⟨hx,i,j,⟨y,x,hi,hj,hl⟩,hn,rfl⟩))
  ·rw[a_ hx]at hr⊢;exact hr.frame hw hK
end Go.FG

namespace Go.FG
theorem rK(s:St)(k:aG)(c:dS):nE s k c k=c:=by simp[nE]
theorem wH(s:St){k n:aG}(c:dS)(h:n≠k):nE s k c n=s n:=by
 have:bA n k=false:=by
  cases hb:bA n k with
  |false=>rfl
  |true=>exact b_ (aN hb) h
 simp[nE,this]
theorem ql(n m:aG):o0 n≠cG m:=by unfold o0 cG;omega
theorem kQ(n m:aG):cG n≠o0 m:=by unfold o0 cG;omega
theorem D4{n m:aG}(h:o0 n=o0 m):n=m:=by unfold o0 at h;omega
theorem jk{n m:aG}(h:cG n=cG m):n=m:=by unfold cG at h;omega
theorem Gn(s:St)(d:aG)(c:dS)(m:aG):nE s (o0 d) c (cG m)=s (cG m):=wH s c (kQ m d)
theorem nq(s:St)(n:aG)(c:dS)(m:aG):nE s (cG n) c (cG m)=if m=n then c else s (cG m):=by
 by_cases h:m=n
 ·subst h;simp[rK]
 ·rw[a_ h];exact wH s c (λe=>h (jk e))
theorem gO(s:St)(n:aG)(c:dS)(m:aG):slot (nE s (cG n) c) m=slot s m:=by unfold slot;rw[wH s c (ql m n)]
theorem va(s:St)(d:aG)(v:SV)(m:aG):slot (nE s (o0 d) (.v v)) m=if m=d then v else slot s m:=by
 by_cases h:m=d
 ·subst h;simp[slot,rK]
 ·rw[a_ h];unfold slot;rw[wH s _ (λe=>h (D4 e))]
theorem L_(s:St)(l r:ax (aG×dS)):wr s (l++r)=wr (wr s l) r:=by
 induction l generalizing s with
 |nil=>rfl
 |cons a l ih=>obtain⟨k,c⟩:=a;exact ih _
def Rd.val{α:Type}(m:Rd α)(σ:St):aA α:=(m.run σ []).map (·.1)
theorem jS{α:Type}(m:Rd α)(σ:St):∀l,(m.run σ l).map (·.1)=m.val σ:=by
 induction m with
 |ret a=>intro l;rfl
 |fail=>intro l;rfl
 |get k f ih=>intro l;simp only[Rd.run,Rd.val];rw[ih,ih]
theorem Rd.Im{α:Type}{m:Rd α}{σ:St}{l l':ax aG}{a:α}(h:m.run σ l=ah (a,l')):m.val σ=ah a:=by rw[<-jS m σ l,h];rfl
@[simp] theorem Rd.agU {α:Type} (a:α) (σ:St):(Rd.ret a).val σ=some a:=rfl
@[simp] theorem Rd.afb {α:Type} (σ:St):(Rd.fail:Rd α).val σ=none:=rfl
@[simp] theorem Rd.yU {α:Type} (k:Nat) (f:dS->Rd α) (σ:St):(Rd.get k f).val σ=(f (σ k)).val σ:=by
 simp only[Rd.val,Rd.run];exact(jS (f (σ k)) σ [k])
@[simp] theorem Rd.QP {α β:Type} (m:Rd α) (f:α->Rd β) (σ:St):(m.bind f).val σ=(m.val σ).bind λa=>(f a).val σ:=by
 induction m with
 |ret a=>rfl
 |fail=>rfl
 |get k g ih=>simp only[Rd.bind,Rd.yU];exact ih _
theorem Rd.bind_some{α β:Type}{m:Rd α}{f:α->Rd β}{σ:St}{b:β}(h:(m.bind f).val σ=ah b):∃a,m.val σ=ah a/\(f a).val σ=ah b:=by rw[Rd.QP,Option.bind_eq_some_iff]at h;exact h
theorem b9{α:Type}{b:aU}{m:Rd α}{σ:St}{a:α}(h:(bif b then m else Rd.fail).val σ=ah a):b=aj/\m.val σ=ah a:=by
 cases b with
 |true=>exact⟨rfl,h⟩
 |false=>simp at h
def ja(Ch:aG->Prop)(σ:St)(c:dZ)(b:aG):Prop:=∃nm o,Ch nm/\σ (cG nm)= .o o/\eI c nm o b
theorem ja.own{Ch:aG->Prop}{σ:St}{c:dZ}{b:aG}(h:ja Ch σ c b):vq σ c b:=by obtain⟨nm,o,_,h1,h2⟩:=h;exact⟨nm,o,h1,h2⟩
theorem kP{c c':dZ}{nm:aG}{o:Obj}(h:c'.P nm=c.P nm/\c'.G nm=c.G nm)(b:aG):eI c' nm o b=eI c nm o b:=by cases o<;>simp only[eI,h.1,h.2]
theorem Ok.p8{E:Tab}{σ σ':St}{w w':bw}{c c':dZ}(h:Ok E σ w c)(Ch:aG->Prop)
  (hσ:∀nm,¬Ch nm->σ' (cG nm)=σ (cG nm)) (g_:∀nm,σ (cG nm)≠ .iN->σ' (cG nm)≠ .iN) (hA:oH σ c c') (hAG:∀nm,¬Ch nm->σ (cG nm)≠ .iN->c'.G nm=c.G nm)
  (hW:∀b,b<w.heap.size->¬ja Ch σ c b->w'.heap[b]? =w.heap[b]?) (hsz:w.heap.size<=w'.heap.size)
  (hK:∀b,c.K b->c'.K b) (Lc:∀b,c'.K b->c.K b\/ja Ch σ c b\/w.heap.size<=b) (Dx:∀b,c'.K b->b<w'.heap.size)
  (mc:∀nm o,Ch nm->σ' (cG nm)= .o o->ot E w' c' nm o)
  (oz:∀nm o b,Ch nm->σ' (cG nm)= .o o->eI c' nm o b->(ja Ch σ c b\/w.heap.size<=b)/\¬c'.K b)
  (Ot:∀nm o tY o' b,Ch nm->Ch tY->σ' (cG nm)= .o o->σ' (cG tY)= .o o'->eI c' nm o b->eI c' tY o' b->nm=tY)
  (Ft:∀nm xs,Ch nm->σ' (cG nm)= .o (.box xs)->∀a∈xs,iu σ' a)
  (Lj:w'.os=w.os) (Ou:w'.tape=w.tape) (Zg:w'.output=w.output):Ok E σ' w' c'/\Grow σ c w σ' c' w':=by
 have JP:∀nm o b,¬Ch nm->σ (cG nm)= .o o->eI c nm o b->¬ja Ch σ c b:=by intro nm o b hc ho hf ⟨fL,o2,hc2,ho2,hf2⟩;exact hc (h.sep nm o fL o2 b ho ho2 hf hf2▸hc2)
 have Yl:∀nm o,¬Ch nm->σ' (cG nm)= .o o->σ (cG nm)= .o o/\(c'.P nm=c.P nm/\c'.G nm=c.G nm):=by intro nm o hc ho;rw[hσ nm hc]at ho;exact⟨ho,(hA nm (.inl (by rw[ho];simp))).1,hAG nm hc (by rw[ho];simp)⟩
 have V4:∀b,c.K b->w'.heap[b]? =w.heap[b]? :=λb hb=>hW b (h.lt b hb) (λhi=>h.HU hi.own hb);have lt:∀nm o b,σ (cG nm)= .o o->eI c nm o b->b<w.heap.size:=λnm o b ho hf=>vq.lt h ⟨nm,o,ho,hf⟩;refine⟨⟨?_, ?_, ?_,Dx, ?_,E.gp.fr h.gp V4 hK⟩,⟨Lj,Ou,Zg,hsz,hK, ?_, ?_, ?_⟩⟩
 ·intro nm o ho;by_cases hc:Ch nm
  ·exact mc nm o hc ho
  ·obtain⟨sQ,ha⟩:=Yl nm o hc ho;refine(h.obj nm o sQ).frame V4 hK (λb hb=>hW b (lt nm o b sQ hb) (JP nm o b hc sQ hb)) ha ?_;intro xs hx a hm n hn;exact hA n (.inl (h.kn nm xs (hx▸sQ) a hm n hn))
 ·intro nm o tY o' b ho sQ hf uI;by_cases hc:Ch nm
  ·by_cases Fp:Ch tY
   ·exact Ot nm o tY o' b hc Fp ho sQ hf uI
   ·obtain⟨h1,ha⟩:=Yl tY o' Fp sQ;rw[kP ha]at uI;rcases(oz nm o b hc ho hf).1 with hi|hi
    ·exact b_ hi (JP tY o' b Fp h1 uI)
    ·have:=lt tY o' b h1 uI;omega
  ·obtain⟨h1,ha⟩:=Yl nm o hc ho;rw[kP ha]at hf;by_cases Fp:Ch tY
   ·rcases(oz tY o' b Fp sQ uI).1 with hi|hi
    ·exact b_ hi (JP nm o b hc h1 hf)
    ·have:=lt nm o b h1 hf;omega
   ·obtain⟨h2,ha'⟩:=Yl tY o' Fp sQ;rw[kP ha']at uI;exact h.sep nm o tY o' b h1 h2 hf uI
 ·intro nm o b ho hf;by_cases hc:Ch nm
  ·exact(oz nm o b hc ho hf).2
  ·obtain⟨h1,ha⟩:=Yl nm o hc ho;rw[kP ha]at hf;intro hk;rcases Lc b hk with h2|h2|h2
   ·exact h.kk nm o b h1 hf h2
   ·exact JP nm o b hc h1 hf h2
   ·have:=lt nm o b h1 hf;omega
 ·intro nm xs ho a hm;by_cases hc:Ch nm
  ·exact Ft nm xs hc ho a hm
  ·obtain⟨h1,_⟩:=Yl nm _ hc ho;intro n hn;exact g_ n (h.kn nm xs h1 a hm n hn)
 ·intro b hb hn;exact hW b hb (λhi=>hn hi.own)
 ·rintro b ⟨nm,o,ho,hf⟩;by_cases hc:Ch nm
  ·exact(oz nm o b hc ho hf).1.imp ja.own id
  ·obtain⟨h1,ha⟩:=Yl nm o hc ho;rw[kP ha]at hf;exact .inl ⟨nm,o,h1,hf⟩
 ·intro b hb;rcases Lc b hb with h2|h2|h2
  ·exact .inl h2
  ·exact .inr (.inl h2.own)
  ·exact .inr (.inr h2)
theorem Ok.change{E:Tab}{σ σ':St}{w w':bw}{c c':dZ}(h:Ok E σ w c)(Ch:aG->Prop)
  (hσ:∀nm,¬Ch nm->σ' (cG nm)=σ (cG nm)) (g_:∀nm,σ (cG nm)≠ .iN->σ' (cG nm)≠ .iN) (hA:iH σ c c')
  (hW:∀b,b<w.heap.size->¬ja Ch σ c b->w'.heap[b]? =w.heap[b]?) (hsz:w.heap.size<=w'.heap.size)
  (hK:∀b,c.K b->c'.K b) (Lc:∀b,c'.K b->c.K b\/ja Ch σ c b\/w.heap.size<=b) (Dx:∀b,c'.K b->b<w'.heap.size)
  (mc:∀nm o,Ch nm->σ' (cG nm)= .o o->ot E w' c' nm o)
  (oz:∀nm o b,Ch nm->σ' (cG nm)= .o o->eI c' nm o b->(ja Ch σ c b\/w.heap.size<=b)/\¬c'.K b)
  (Ot:∀nm o tY o' b,Ch nm->Ch tY->σ' (cG nm)= .o o->σ' (cG tY)= .o o'->eI c' nm o b->eI c' tY o' b->nm=tY)
  (Ft:∀nm xs,Ch nm->σ' (cG nm)= .o (.box xs)->∀a∈xs,iu σ' a)
  (Lj:w'.os=w.os) (Ou:w'.tape=w.tape) (Zg:w'.output=w.output):Ok E σ' w' c'/\Grow σ c w σ' c' w':=
 h.p8 Ch hσ g_ hA.w (λnm _ hn=>(hA nm (.inl hn)).2) hW hsz hK Lc Dx mc oz Ot Ft Lj Ou Zg
theorem Ok.slot{E:Tab}{σ σ':St}{w:bw}{c:dZ}(h:Ok E σ w c)(hσ:∀nm,σ' (cG nm)=σ (cG nm)):Ok E σ' w c/\Grow σ c w σ' c w:=by
 refine⟨⟨λnm o ho=>h.obj nm o (hσ nm▸ho),λnm o tY o' b h1 h2=>h.sep nm o tY o' b (hσ nm▸h1) (hσ tY▸h2),λnm o b h1=>h.kk nm o b (hσ nm▸h1),h.lt,λnm xs ho a hm n hn=>by rw[hσ];exact h.kn nm xs (hσ nm▸ho) a hm n hn,h.gp⟩,
  ⟨rfl,rfl,rfl,bR _,λ_ h=>h,λ_ _ _=>rfl,λb ⟨nm,o,ho,hf⟩=> .inl ⟨nm,o,hσ nm▸ho,hf⟩,λ_ h=> .inl h⟩⟩
theorem Bh(a:Act)(d:aG)(v:a7)(h:d<a.tmps.size):(a.put (ah d) v).eval (.tmp d)=v:=by simp[Q3,Ep,h]
theorem E9(a:Act)(d n:aG)(v:a7)(h:n≠d):(a.put (ah d) v).eval (.tmp n)=a.eval (.tmp n):=by simp only[Q3,Ep,dc,mY];rw[a_ (λe=>h e.symm)]
theorem eC.p8{E:Tab}{σ σ':St}{a:Act}{w w':bw}{c c':dZ}(h:eC E σ a w c)(hok:Ok E σ w c)(hG:Grow σ c w σ' c' w')(hA:oH σ c c')(g_:∀nm,σ (cG nm)≠ .iN->σ' (cG nm)≠ .iN)
  (o:eD) (v:a7) (hs:∀n,o.dst≠ah n->slot σ' n=slot σ n) (hd:∀d,o.dst=ah d->d<a.tmps.size/\ic E w' c' (slot σ' d) v/\lr σ' (slot σ' d)):eC E σ' (a.put o.dst v) w' c':=by
 have keep:∀n,ic E w' c' (slot σ n) (a.eval (.tmp n)):=λn=>(h.ok n).nU (hG.UU hok) hG.K (λm hm=>hA m (.inl (h.kn n m hm)));have V3:∀n,lr σ' (slot σ n):=λn m hm=>g_ m (h.kn n m hm);cases ho:o.dst with
 |none=>
  refine⟨λn=> ?_,λn=> ?_,h.df⟩
  ·rw[hs n (by simp[ho])];exact keep n
  ·rw[hs n (by simp[ho])];exact V3 n
 |some d=>
  obtain⟨h1,h2,h3⟩:=hd d ho;refine⟨λn=> ?_,λn=> ?_,h.df⟩
  ·by_cases hn:n=d
   ·subst hn;rw[Bh a n v h1];exact h2
   ·rw[E9 a d n v hn,hs n (by rw[ho];simpa using λe=>hn e.symm)];exact keep n
  ·by_cases hn:n=d
   ·subst hn;exact h3
   ·rw[hs n (by rw[ho];simpa using λe=>hn e.symm)];exact V3 n
theorem eC.change{E:Tab}{σ σ':St}{a:Act}{w w':bw}{c c':dZ}(h:eC E σ a w c)(hok:Ok E σ w c)(hG:Grow σ c w σ' c' w')(hA:iH σ c c')(g_:∀nm,σ (cG nm)≠ .iN->σ' (cG nm)≠ .iN)
  (o:eD) (v:a7) (hs:∀n,o.dst≠ah n->slot σ' n=slot σ n) (hd:∀d,o.dst=ah d->d<a.tmps.size/\ic E w' c' (slot σ' d) v/\lr σ' (slot σ' d)):eC E σ' (a.put o.dst v) w' c':=
 h.p8 hok hG hA.w g_ o v hs hd
theorem oF(σ:St)(o:eD)(v:SV):(∀n,o.dst≠ah n->slot (wr σ (dw o v)) n=slot σ n)/\(∀d,o.dst=ah d->slot (wr σ (dw o v)) d=v)/\∀nm,wr σ (dw o v) (cG nm)=σ (cG nm):=by
 cases ho:o.dst with
 |none=>simp[dw,ho,wr]
 |some d=>
  refine⟨λn hn=> ?_,λd' hd=> ?_,λnm=> ?_⟩
  ·simp only[dw,ho,wr];rw[va,a_ (by rintro rfl;exact hn rfl)]
  ·cases hd;simp only[dw,ho,wr];rw[va,ba rfl]
  ·simp only[dw,ho,wr];exact Gn _ _ _ _
end Go.FG

namespace Go.FG
def gF:Ck->a7
 | .i k=> .int k 0| .b=> .bool ao| .s=> .string ⟨#[]⟩| .l _=> .slice ai 0 0| .o=> .nilIface
def kB:AV->a7
 | .i k n=> .int k n| .b x=> .bool x| .s x=> .string x|_=> .nilIface
structure dP (P:cC) (E:Tab):Prop where
 info:∀t ti,E.ty t=ah ti->∃inf,P.info? t=ah inf/\inf.size=ti.ks.length/\inf.bytes=ti.bytes/\0<ti.ks.length/\
  (JO ti.ks=aj->∃z,inf.zero=ah z/\z.cells=(ti.ks.map gF).toArray/\(ti.agg=aj->z= .agg (ti.ks.map gF).toArray))
 desc:∀t ti,E.ty t=ah ti->∃d,P.underlying t=ah d/\
  (ti.agg=aj->∃fs,d= .struct fs/\∀f o n,E.fo t f=ah (o,n)->∃fd,fs[f]? =ah fd/\fd.offset=o/\(P.info? fd.type).map (·.size)=ah n/\n≠0/\o+n<=ti.ks.length)/\
  (ti.agg=ao->(∃k,ti.ks=[.i k]/\d= .int k)\/(ti.ks=[.b]/\d= .bool)\/(ti.ks=[.s]/\d= .string)\/(∃e,ti.ks=[.l e]/\d= .slice e)\/
   (ti.ks=[.o]/\(match d with| .struct _| .array _ _=>ao|_=>aj)=aj))
 fo:∀t f o n,E.fo t f=ah (o,n)->∃ti,E.ty t=ah ti/\ti.agg=aj
 pl:∀t ti,E.ty t=ah ti->ti.agg=aj->∀fs,P.underlying t=ah (.struct fs)->∃pl,fs.toList.mapM (λf=>(P.info? f.type).map λi=>(f.offset,i.size))=ah pl/\∀f o n,E.fo t f=ah (o,n)->pl[f]? =ah (o,n)
 eq:∀t ti,ld t E.eqs=aj->E.ty t=ah ti->∀(w:bw) (x y:cY) (xs ys:ax AV) (r:aU),Sq xs ys=ah r->xs.map DE=ti.ks->ys.map DE=ti.ks->
  (do eqGuard .eql t x y (.agg (xs.map kB).toArray) (.agg (ys.map kB).toArray);binOp .eql t (.agg (xs.map kB).toArray) (.agg (ys.map kB).toArray)).run P w= .ok (.bool r) w/\
  (do eqGuard .neq t x y (.agg (xs.map kB).toArray) (.agg (ys.map kB).toArray);binOp .neq t (.agg (xs.map kB).toArray) (.agg (ys.map kB).toArray)).run P w= .ok (.bool !r) w
 fl:∀t f,E.N8 t f=aj->∀fs fd,P.underlying t=ah (.struct fs)->fs[f]? =ah fd->∀w,(Go.isAgg fd.type).run P w= .ok ao w
theorem BQ{v:a7}(h:v.oneCell'=aj):v.cells= #[v]:=by cases v<;>simp_all [Value.cells,Value.oneCell']
theorem dN.one{E:Tab}{w:bw}{c:dZ}{a:AV}{v:a7}(h:dN E w c a v):v.oneCell'=true:=by
 cases a with
 |i=>cases h;rfl
 |b=>cases h;rfl
 |s=>cases h.1;rfl
 |nl=>cases h;rfl
 |sh e xs=>cases h<;>rfl
 |own n=>cases h;unfold mb;split<;>rfl
 |vw n lo hi=>
  obtain⟨_,_,h1,h2⟩:=h;by_cases hn:(c.P n).nil=aj
  ·rw[h1 hn];rfl
  ·rcases h2 (by simpa using hn)with ⟨_,h⟩|⟨_,o,_,h⟩<;>rw[h]<;>rfl
 |bp n j=>cases h;rfl
 |rp n i j=>rw[h.2];rfl
 |sp e xs i j=>obtain⟨_,_,_,_,_,_,_,h⟩:=h;rw[h];rfl
 |la n i j=>rw[h.1.2];unfold mb;split<;>rfl
 |ip n i j i2 j2=>rw[h.1.2.2];rfl
 |iv n i j lo hi=>
  obtain⟨⟨_,_,_,h1,h2⟩,_⟩:=h;by_cases hn:(c.G n i j).nil=aj
  ·rw[h1 hn];rfl
  ·rcases h2 (by simpa using hn)with ⟨_,h⟩|⟨_,o,_,h⟩<;>rw[h]<;>rfl
 |fn f gQ=>obtain⟨ps,h,_⟩:=h;rw[h];rfl
 |fp cs j=>obtain⟨b,h,_⟩:=h;rw[h];rfl
section
variable {P:cC} (w:bw)
theorem Addr.mT(b o i:aG):(ad b o).add i=ad b (o+i):=by unfold XQ ad;split<;>simp_all
theorem Br(b o:aG):∀(vs:ax a7) (i:aG) (w:bw) (cur:cX a7),o4 w b cur->o+i+vs.length<=cur.size->(∀v∈vs,v.oneCell'=aj)->
  (storeCells (ad b o) vs i).run P w= .ok () (w.setRow b (cur.toList.take (o+i)++vs++cur.toList.drop (o+i+vs.length)).toArray):=by
 intro vs;induction vs with
 |nil=>intro i w cur hb _ _;obtain⟨t,fr,hg,hf⟩:=hb;simp only[storeCells,dv,lP,rS,List.take_append_drop,rP];rw[setRow_self w b cur t fr hg];rfl
 |cons v rest ih=>
  intro i w cur hb hl h1;have hi:o+i<cur.size:=by simp at hl;omega
  have ajS:=hb.free hi;obtain⟨t,fr,hg,hf⟩:=hb;have hcell:w.cell? (ad b (o+i))=ah cur[o+i]:=by simp[yq,hg,hi]
  have Ln:(store ((ad b o).add i) v).run P w= .ok () (w.setRow b (cur.setIfInBounds (o+i) v)):=by rw[Addr.mT,run_store P w _ v _ (h1 v (by simp)),hcell];simp[ajS,setCell_eq_setRow w b (o+i) cur t fr v hg]
  have Fo:o4 (w.setRow b (cur.setIfInBounds (o+i) v)) b (cur.setIfInBounds (o+i) v):=⟨t,fr,setRow_heap w b cur _ t fr hg,by simpa using hf⟩
  have ih':=ih (i+1) (w.setRow b (cur.setIfInBounds (o+i) v)) (cur.setIfInBounds (o+i) v) Fo (by simp at hl⊢;omega) (λx hx=>h1 x (by simp[hx]));simp only[storeCells,bV,Ln,bk,ih',setRow_setRow];congr 3;have e:=list_seg_step cur.toList (o+i) v rest (by simp at hl⊢;omega);simpa [Array.toList_setIfInBounds,rR]using e
def iC(cur:cX a7)(o:aG)(vs:ax a7):cX a7:=(cur.toList.take o++vs++cur.toList.drop (o+vs.length)).toArray
theorem iY{cur:cX a7}{o:aG}{vs:ax a7}(h:o+vs.length<=cur.size):(iC cur o vs).size=cur.size:=by simp[iC];omega
theorem mh{cur:cX a7}{o:aG}{vs:ax a7}(h:o+vs.length<=cur.size)(k:aG):
  (iC cur o vs)[k]? =if o<=k/\k<o+vs.length then vs[k-o]? else cur[k]? :=by
 simp only[iC,f_];by_cases h1:k<o
 ·rw[a_ (by omega),bY,dx (by simp;omega),dU,ba h1];simp
 ·by_cases h2:k<o+vs.length
  ·rw[ba ⟨by omega,h2⟩,bY,cT (by simp;omega),dx (by simp;omega)];congr 1;simp;omega
  ·rw[a_ (by omega),bY,cT (by simp;omega),cT (by simp;omega),dK];simp only[cz];congr 1;simp;omega
theorem oZ{b o:aG}{vs:ax a7}{cur:cX a7}(hb:o4 w b cur)(hl:o+vs.length<=cur.size)(h1:∀v∈vs,v.oneCell'=aj):
  (storeCells (ad b o) vs).run P w= .ok () (w.setRow b (iC cur o vs)):=by have:=Br (P:=P) b o vs 0 w cur hb (by simpa using hl) h1;simpa [iC]using this
theorem o4.setRow{w:bw}{b:aG}{cur new:cX a7}(h:o4 w b cur)(hs:new.size=cur.size):o4 (w.setRow b new) b new:=by obtain⟨t,fr,hg,hf⟩:=h;exact⟨t,fr,setRow_heap w b cur new t fr hg,by rw[hs];exact hf⟩
theorem o4.alloc(w:bw)(cs:cX a7)(t:TypeId):o4 (w.alloc (.cells cs t)) w.heap.size cs:=
 ⟨t,(0,0),heap_alloc_new w _,λo _=>by simp⟩
theorem u6{b o:aG}{cs:ax a7}(h:∀j v,cs[j]? =ah v->w.cell? (ad b (o+j))=ah v):(loadCells (ad b o) cs.length).run P w= .ok cs.toArray w:=
 run_loadCells_list w (ad b o) cs (λj v hj=>by rw[Addr.mT];exact h j v hj)
theorem Au{E:Tab}(hE:dP P E){t:aG}{ti:TI}(ht:E.ty t=ah ti){b o:aG}{cs:ax a7}(hl:cs.length=ti.ks.length)(h:∀j v,cs[j]? =ah v->w.cell? (ad b (o+j))=ah v):
  (vG t (.pointer (ah (ad b o)))).run P w= .ok (if ti.agg=aj then .agg cs.toArray else cs.headD .nilIface) w:=by
 obtain⟨inf,hi,hsz,_,me,_⟩:=hE.info t ti ht;obtain⟨d,hd,ha,hn⟩:=hE.desc t ti ht;cases rY:ti.agg with
 |true=>obtain⟨fs,rfl,_⟩:=ha rY;have hr:=u6 (P:=P) w (b:=b) (o:=o) h;simp only[vG,sr,loadVar,isAgg,bV,run_underlying hd,cy,bk,if_true,sizeOf,typeInfo,program,nv,hi,hsz,<-hl,hr]
 |false=>
  have Fx:∃k,ti.ks=[k]:=by rcases hn rY with ⟨k,h,_⟩|⟨h,_⟩|⟨h,_⟩|⟨e,h,_⟩|⟨h,_⟩<;>exact⟨_,h⟩
  obtain⟨k,hk⟩:=Fx;rw[hk]at hl;obtain⟨v,rfl⟩:=fW.1 hl;have hc:=h 0 v rfl;simp only[rS]at hc;have ar5:(match d with| .struct _| .array _ _=>aj|_=>ao)=false:=by
   rcases hn rY with ⟨k,_,rfl⟩|⟨_,rfl⟩|⟨_,rfl⟩|⟨e,_,rfl⟩|⟨_,h⟩
   ·rfl
   ·rfl
   ·rfl
   ·rfl
   ·cases d<;>simp_all
  have ajz:(isAgg t).run P w= .ok ao w:=by simp only[isAgg,bV,run_underlying hd,bk];cases d<;>simp_all
  simp only[vG,sr,loadVar,bV,cy,bk,ajz,cN,if_false,run_load,hc,List.headD]
theorem Gd{E:Tab}(hE:dP P E){t:aG}{ti:TI}(ht:E.ty t=ah ti){b o:aG}{v:a7}{cur:cX a7}(hl:v.cells.size=ti.ks.length)(hb:o4 w b cur)(hf:o+v.cells.size<=cur.size)(h1:∀u∈v.cells.toList,u.oneCell'=aj):
  (RJ t (.pointer (ah (ad b o))) v).run P w= .ok () (w.setRow b (iC cur o v.cells.toList)):=by obtain⟨inf,hi,hsz,_⟩:=hE.info t ti ht;have hr:=oZ (P:=P) w hb (o:=o) (vs:=v.cells.toList) (by simpa using hf) h1;simp only[RJ,sr,storeVar,bV,cy,bk,sizeOf,typeInfo,program,nv,hi,hsz,hl,ne_eq,not_true_eq_false,if_false,hr]
theorem LY{E:Tab}(hE:dP P E){t:aG}{ti:TI}(ht:E.ty t=ah ti)(ho:JO ti.ks=aj):
  (XR t aj (.tuple #[])).run P w= .ok (.pointer (ah (ad w.heap.size 0))) (w.alloc (.cells (ti.ks.map gF).toArray t)):=by obtain⟨inf,hi,hsz,_,_,hz⟩:=hE.info t ti ht;obtain⟨z,HH,Bn,_⟩:=hz ho;simp only[XR,bV,zeroValue,typeInfo,program,nv,hi,bk,cy,HH,newVar,newRow,newObj,Bn];rfl
theorem P_(t:aG)(v:a7):(Instr.box t v).run P w= .ok (.pointer (ah (ad w.heap.size 0))) (w.alloc (.cells v.cells t)):=by simp only[Instr.box,bV,newVar,newRow,newObj,nv,bk,cy];rfl
theorem F_{E:Tab}(hE:dP P E){t f off n:aG}(hf:E.fo t f=ah (off,n))(b o:aG):
  (RH t (.pointer (ah (ad b o))) f).run P w= .ok (.pointer (ah (ad b (o+off)))) w:=by
 obtain⟨ti,ht,rY⟩:=hE.fo t f off n hf;obtain⟨d,hd,ha,_⟩:=hE.desc t ti ht;obtain⟨fs,rfl,Ri⟩:=ha rY;obtain⟨fd,h1,h2,h3,h4,_⟩:=Ri f off n hf;cases hq:P.info? fd.type with
 |none=>simp[hq]at h3
 |some inf=>
  have hs:inf.size=n:=by simpa [hq]using h3
  have g_:¬inf.size=0:=by omega
  simp only[RH,bV,run_underlying hd,bk,h1,sr,cy,fieldPlace,sizeOf,typeInfo,program,nv,hq,a_ g_,lO,Addr.mT,h2]
theorem nR{E:Tab}(hE:dP P E){t e:aG}{ti:TI}(ht:E.ty t=ah ti)(rY:ti.agg=ao)(hk:ti.ks=[.l e]):P.underlying t=ah (.slice e):=by obtain⟨d,hd,_,hn⟩:=hE.desc t ti ht;rcases hn rY with ⟨k,h,_⟩|⟨h,_⟩|⟨h,_⟩|⟨e',h,rfl⟩|⟨h,_⟩<;>rw[hk]at h<;>simp_all
theorem Ga{E:Tab}(hE:dP P E){t e:aG}{te:TI}(hu:P.underlying t=ah (.slice e))(he:E.ty e=ah te)(b o n c:aG)(k:lU)(i:ay)(h0:0<=i)(h1:i<n):
  (RI t (.slice (ah (ad b o)) n c) (.int k i)).run P w= .ok (.pointer (ah (ad b (o+i.toNat*te.ks.length)))) w:=by obtain⟨inf,hi,hsz,_⟩:=hE.info e te he;simp only[RI,asIntOf,bV,cy,bk,run_underlying hu,h0,h1,and_self,if_true,sizeOf,typeInfo,program,nv,hi,hsz,Addr.mT]
end
end Go.FG

namespace Go.FG
section
variable {P:cC} {E:eL} {σ:St} {a:Act} {w:bw} {c:dZ}
theorem kR(dg:eC E σ a w c){x:cY}{v:SV}(h:(DQ x).val σ=ah v):ic E w c v (a.eval x)/\lr σ v:=by
 cases x with
 |tmp t=>
  simp only[DQ,Rd.yU]at h;cases hc:σ (o0 t)with
  |v x=>rw[hc]at h;obtain rfl:=aD h;have h1:=dg.ok t;have h2:=dg.kn t;simp only[slot,hc]at h1 h2;exact⟨h1,h2⟩
  |o x=>rw[hc]at h;simp at h;subst h;exact⟨trivial,λn hn=>by simp[b8]at hn⟩
  |iN=>rw[hc]at h;simp at h;subst h;exact⟨trivial,λn hn=>by simp[b8]at hn⟩
 |const v'=>
  obtain rfl:=aD h;refine⟨?_, ?_⟩
  ·show ic E w c (cst v') v';unfold cst;split;case h_3 x=>
    cases hd:eG x.size 4611686018427387904 with
    |true=>exact⟨rfl,cf hd⟩
    |false=>exact trivial
   all_goals first|trivial|rfl
  ·unfold cst;intro n hn;split at hn;case h_3 x=>
    cases hd:eG x.size 4611686018427387904 with
    |true=>simp[hd,b8,bm]at hn
    |false=>simp[hd,b8]at hn
   all_goals simp[b8,bm]at hn
 |global g=>simp[DQ]at h
 |func f=>obtain rfl:=aD h;exact⟨⟨#[],rfl,rfl,λq cs hq=>by simp at hq⟩,λn hn=>by simp[b8,bm]at hn⟩
theorem h_(dg:eC E σ a w c){x:cY}{v:AV}(h:(qf x).val σ=ah v):dN E w c v (a.eval x)/\iu σ v:=by
 obtain⟨s,h1,h2⟩:=Rd.bind_some h;obtain⟨h3,h4⟩:=kR dg h1;split at h2
 ·obtain rfl:=aD h2;exact⟨h3,λn hn=>h4 n (by simpa [b8]using hn)⟩
 ·simp at h2
theorem oD(dg:eC E σ a w c){x:cY}{k:lU}{n:ay}(h:(z_ x).val σ=ah (k,n)):a.eval x= .int k n:=by
 obtain⟨s,h1,h2⟩:=Rd.bind_some h;obtain⟨h3,_⟩:=h_ dg h1;split at h2
 ·simp at h2;obtain⟨rfl,rfl⟩:=h2;exact h3
 ·simp at h2
theorem cW{nm:aG}{x:Obj}(h:(iy nm).val σ=ah x):σ (cG nm)= .o x:=by
 simp only[iy,Rd.yU]at h;split at h
 ·rename_i y hy;simp at h;subst h;exact hy
 ·simp at h
theorem dz{t:aG}{ti:TI}(h:(qn E t).val σ=ah ti):E.ty t=ah ti:=by
 unfold qn at h;split at h
 ·simp at h;subst h;assumption
 ·simp at h
theorem jA{nm:aG}{u:Unit}(h:(fresh nm).val σ=ah u):σ (cG nm)= .iN/\nm<900000000:=by
 simp only[fresh,Rd.yU]at h;split at h
 ·rename_i hy;obtain⟨h1,_⟩:=b9 h;exact⟨hy,by have:=cf h1;omega⟩
 ·simp at h
def fO(P:cC)(E:eL)(σ:St)(a:Act)(w:bw)(c:dZ)(o:eD)(ws:ax (aG×dS)):Prop:=
 ∀(K:Act->bw->Prop) (Q:Exit->Act->bw->Prop),
  (∀v w' c',Ok E (wr σ ws) w' c'->eC E (wr σ ws) (a.put o.dst v) w' c'->Grow σ c w (wr σ ws) c' w'->oH σ c c'->K (a.put o.dst v) w')->o.wp P a w K Q
theorem vj{o:eD}{v:a7}{w':bw}{K:Act->bw->Prop}{Q:Exit->Act->bw->Prop}(hr:(execOp a.eval o).run P w= .ok (.value v) w')(hK:K (a.put o.dst v) w'):o.wp P a w K Q:=by unfold KH;rw[hr];exact hK
theorem tR{o:eD}{w':bw}{K:Act->bw->Prop}{Q:Exit->Act->bw->Prop}(hr:(execOp a.eval o).run P w= .ok .skip w')(hK:K (a.put o.dst undef) w'):o.wp P a w K Q:=by unfold KH;rw[hr];exact hK
theorem iH.refl(σ:St)(c:dZ):iH σ c c:=λ_ _=>⟨rfl,rfl⟩
theorem eW(hok:Ok E σ w c)(dg:eC E σ a w c){o:eD}(hd:∀d,o.dst=ah d->d<a.tmps.size){s:SV}{v:a7}
  (hs:ic E w c s v) (hk:lr σ s) (hr:(execOp a.eval o).run P w= .ok (.value v) w):fO P E σ a w c o (dw o s):=by
 intro K Q hK;obtain⟨s1,s2,s3⟩:=oF σ o s;obtain⟨h1,h2⟩:=hok.slot s3;refine vj hr (hK v w c h1 ?_ h2 (iH.refl _ _).w);refine dg.change hok h2 (iH.refl _ _) (λnm hn=>by rw[s3];exact hn) o v s1 (λd ho=>⟨hd d ho, ?_, ?_⟩)
 ·rw[s2 d ho];exact hs
 ·rw[s2 d ho];intro n hn;rw[s3];exact hk n hn
theorem zI(hok:Ok E σ w c)(dg:eC E σ a w c){o:eD}(hd:∀d,o.dst=ah d->d<a.tmps.size){nm:aG}{ob:Obj}{s:SV}{v:a7}{w':bw}{p:Pl}{g:aG->aG->Pl}
  (hn:σ (cG nm)= .iN) (jj:nm<900000000)
  (mc:∀c':dZ,c'.P nm=p->c'.G nm=g->(∀b,c.K b->c'.K b)->iH σ c c'->ot E w' c' nm ob)
  (oz:∀c':dZ,c'.P nm=p->c'.G nm=g->∀b,eI c' nm ob b->w.heap.size<=b)
  (Ft:∀xs,ob= .box xs->∀a∈xs,iu σ a)
  (tW:∀c':dZ,c'.P nm=p->c'.G nm=g->ic E w' c' s v) (AM:∀n∈b8 s,n=nm\/σ (cG n)≠ .iN)
  (hW:∀b,b<w.heap.size->w'.heap[b]? =w.heap[b]?) (hsz:w.heap.size<=w'.heap.size) (Lj:w'.os=w.os) (SU:w'.tape=w.tape) (SK:w'.output=w.output)
  (hr:(execOp a.eval o).run P w= .ok (.value v) w'):fO P E σ a w c o ((cG nm, .o ob)::dw o s):=by
 intro K Q hK;let c':dZ:=⟨λn=>if n=nm then p else c.P n,λn=>if n=nm then g else c.G n,c.K⟩
 have hP:c'.P nm=p:=ba rfl;have hG:c'.G nm=g:=ba rfl;have hA:iH σ c c':=λm hm=>by
  have:m≠nm:=by rintro rfl;rcases hm with h|h;exact h hn;omega
  exact⟨a_ this,a_ this⟩
 let σ1:=nE σ (cG nm) (.o ob);obtain⟨s1,s2,s3⟩:=oF σ1 o s;have key:∀m,wr σ1 (dw o s) (cG m)=if m=nm then .o ob else σ (cG m):=λm=>by rw[s3];exact nq _ _ _ _
 have g_:∀m,σ (cG m)≠ .iN->wr σ1 (dw o s) (cG m)≠ .iN:=λm hm=>by rw[key];split<;>simp_all
 have hh:=hok.change (σ':=wr σ1 (dw o s)) (w':=w') (c':=c') (λm=>m=nm) (λm hm=>by rw[key,a_ hm]) g_ hA
  (λb hb _=>hW b hb) hsz (λ_ h=>h) (λ_ h=> .inl h) (λb hb=>gC (hok.lt b hb) hsz)
  (λm x hm ho=>by subst hm;rw[key,ba rfl]at ho;cases ho;exact mc c' hP hG (λ_ h=>h) hA)
  (λm x b hm ho hf=>by subst hm;rw[key,ba rfl]at ho;cases ho;have:=oz c' hP hG b hf;exact⟨.inr this,λhk=>by have:=hok.lt b hk;omega⟩)
  (λm x m' x' b hm uJ _ _ _ _=>by rw[hm,uJ])
  (λm xs hm ho y hy n jC=>by subst hm;rw[key,ba rfl]at ho;cases ho;exact g_ n (Ft xs rfl y hy n jC)) Lj SU SK
 refine vj hr (hK v w' c' hh.1 ?_ hh.2 hA.w);refine dg.change hok hh.2 hA g_ o v (λn jC=>by rw[s1 n jC];exact gO _ _ _ _) (λd ho=>⟨hd d ho, ?_, ?_⟩)
 ·show ic E w' c' (slot (wr σ1 (dw o s)) d) v;rw[s2 d ho];exact tW c' hP hG
 ·show lr (wr σ1 (dw o s)) (slot (wr σ1 (dw o s)) d);rw[s2 d ho];intro n jC;rw[key];split
  ·simp
  ·rename_i h;exact(AM n jC).resolve_left h
theorem rj(hok:Ok E σ w c)(dg:eC E σ a w c){o:eD}(hd:∀d,o.dst=ah d->d<a.tmps.size){nm:aG}{ob ob':Obj}{s:SV}{v:a7}{w':bw}
  (hn:σ (cG nm)= .o ob) (mc:ot E w' c nm ob') (oz:∀b,eI c nm ob' b->eI c nm ob b)
  (Ft:∀xs,ob'= .box xs->∀a∈xs,iu σ a)
  (tW:ic E w' c s v) (AM:lr σ s)
  (hW:∀b,b<w.heap.size->¬eI c nm ob b->w'.heap[b]? =w.heap[b]?) (hsz:w.heap.size<=w'.heap.size) (Lj:w'.os=w.os) (SU:w'.tape=w.tape) (SK:w'.output=w.output)
  (hr:(execOp a.eval o).run P w= .ok (.value v) w'\/((execOp a.eval o).run P w= .ok .skip w'/\v=undef)):fO P E σ a w c o ([(cG nm, .o ob')]++dw o s):=by
 intro K Q hK;let σ1:=nE σ (cG nm) (.o ob');obtain⟨s1,s2,s3⟩:=oF σ1 o s;have key:∀m,wr σ1 (dw o s) (cG m)=if m=nm then .o ob' else σ (cG m):=λm=>by rw[s3];exact nq _ _ _ _
 have g_:∀m,σ (cG m)≠ .iN->wr σ1 (dw o s) (cG m)≠ .iN:=λm hm=>by rw[key];split<;>simp_all
 have g6:∀b,eI c nm ob b->ja (λm=>m=nm) σ c b:=λb hb=>⟨nm,ob,rfl,hn,hb⟩
 have hh:=hok.change (σ':=wr σ1 (dw o s)) (w':=w') (c':=c) (λm=>m=nm) (λm hm=>by rw[key,a_ hm]) g_ (iH.refl _ _)
  (λb hb Oi=>hW b hb (λhf=>Oi (g6 b hf))) hsz (λ_ h=>h) (λ_ h=> .inl h) (λb hb=>gC (hok.lt b hb) hsz)
  (λm x hm ho=>by subst hm;rw[key,ba rfl]at ho;cases ho;exact mc)
  (λm x b hm ho hf=>by subst hm;rw[key,ba rfl]at ho;cases ho;exact⟨.inl (g6 b (oz b hf)),hok.kk _ _ b hn (oz b hf)⟩)
  (λm x m' x' b hm uJ _ _ _ _=>by rw[hm,uJ])
  (λm xs hm ho y hy n jC=>by subst hm;rw[key,ba rfl]at ho;cases ho;exact g_ n (Ft xs rfl y hy n jC)) Lj SU SK
 have acR:eC E (wr σ1 (dw o s)) (a.put o.dst v) w' c:=by
  refine dg.change hok hh.2 (iH.refl _ _) g_ o v (λn jC=>by rw[s1 n jC];exact gO _ _ _ _) (λd ho=>⟨hd d ho, ?_, ?_⟩)
  ·rw[s2 d ho];exact tW
  ·rw[s2 d ho];intro n jC;rw[key];split
   ·simp
   ·exact AM n jC
 rcases hr with hr|⟨hr,rfl⟩
 ·exact vj hr (hK v w' c hh.1 acR hh.2 (iH.refl _ _).w)
 ·exact tR hr (hK undef w' c hh.1 acR hh.2 (iH.refl _ _).w)
end
end Go.FG

namespace Go.FG
theorem YC:∀{x y:Ck},ckB x y=aj->x=y:=by intro x y h;cases x<;>cases y<;>simp[ckB]at h<;>first|rfl|(subst h;rfl)|(have:=aN h;subst this;rfl)
theorem p9:∀{a b:ax Ck},oS a b=aj->a=b
 |[],[],_=>rfl
 |[],_::_,h=>by simp[oS]at h
 |_::_,[],h=>by simp[oS]at h
 |x::l,y::r,h=>by
  simp only[oS,aJ]at h;rw[YC h.1,p9 h.2]
structure ajk (E:eL) (w:bw) (K:aG->Prop) (b o n c e:aG) (xs:Row) (ti:TI) (U:aG->aG->a7):Prop where
 nn:n=xs.length
 ty:E.ty e=ah ti
 cap:xs.length<=c
 mx:c<=maxLen
 kb:K b
 sh:∀y∈xs,y.map CV.kd=ti.ks
 cell:∀i j y x,xs[i]? =ah y->y[j]? =ah x->w.cell? (ad b (o+i*ti.ks.length+j))=ah (U i j)
 la:∀i j y x,xs[i]? =ah y->y[j]? =ah x->cK E w K (U i j) x
theorem cK.FJ{E:eL}{w:bw}{K:aG->Prop}{b o n c e:aG}{xs:Row}(h:cK E w K (.slice (ah (ad b o)) n c) (.l e xs))(hn:0<xs.length):∃ti U,ajk E w K b o n c e xs ti U:=by
 generalize hv:XT (ah (ad b o)) n c=v at h;generalize hx:CV.l e xs=x at h;cases h with
 |i=>cases hx
 |b=>cases hx
 |s=>cases hx
 |nl=>cases hx;simp at hn
 |l e xs b o c ti U ht hc hm hK hs hcell g6=>cases hx;cases hv;exact⟨ti,U,rfl,ht,hc,hm,hK,hs,hcell,g6⟩
theorem Hg{E:eL}{w:bw}{c:dZ}{u:a7}{x:CV}(h:cK E w c.K u x):dN E w c (dec x.kd x) u:=by
 cases x with
 |i k n=>cases h;rfl
 |b=>cases h;rfl
 |s=>cases h with|s _ ho=>exact⟨rfl,ho⟩
 |l e xs=>exact h
theorem JR{E:eL}{w:bw}{c:dZ}{u:a7}{x:CV}(h:cK E w c.K u x):dN E w c (T8 x) u:=by
 cases x with
 |i k n=>cases h;rfl
 |b=>cases h;rfl
 |s=>cases h with|s _ ho=>exact⟨rfl,ho⟩
 |l e xs=>exact h
theorem nP{E:eL}{w:bw}{c:dZ}{u:a7}{x:CV}(hl:sI x=ao)(h:Sc u x):dN E w c (dec x.kd x) u:=by
 cases x with
 |i=>exact h.1
 |b=>exact h.1
 |s=>exact h
 |l=>simp[sI]at hl
theorem LA(k:Ck)(x:CV):bm (dec k x)=[]:=by cases k<;>rfl
theorem zX(x:CV):bm (T8 x)=[]:=by cases x<;>rfl
theorem kj(xs:Row)(i:aG):∀(ks:ax Ck) (j q:aG),(sH xs i j ks)[q]? =(ks[q]?).map λk=>dec k (au xs i (j+q)):=by
 intro ks;induction ks with
 |nil=>intro j q;simp[sH]
 |cons k ks ih=>
  intro j q;cases q with
  |zero=>simp[sH]
  |succ q=>simp only[sH,dr,ih];congr 2;funext k;congr 2;omega
theorem EX(nm:aG)(xs:Row)(i:aG):∀(ks:ax Ck) (j q:aG),(xO nm xs i j ks)[q]? =(ks[q]?).map λk=>match k with| .l _=>AV.la nm i (j+q)|k=>dec k (au xs i (j+q)):=by
 intro ks;induction ks with
 |nil=>intro j q;simp[xO]
 |cons k ks ih=>
  intro j q;cases q with
  |zero=>cases k<;>simp[xO]
  |succ q=>
   have e:j+1+q=j+(q+1):=by omega
   cases k<;>simp only[xO,dr,ih,e]
theorem ea{xs:Row}{i j:aG}{y:ax CV}{x:CV}(hi:xs[i]? =ah y)(hj:y[j]? =ah x):au xs i j=x:=by simp[au,e6,hi,hj]
theorem jF(xs:Row)(i:aG):∀(ks:ax Ck) (j:aG),(sH xs i j ks).length=ks.length:=by
 intro ks;induction ks with
 |nil=>intro j;rfl
 |cons k ks ih=>intro j;simp[sH,ih]
theorem wZ(nm:aG)(xs:Row)(i:aG):∀(ks:ax Ck) (j:aG),(xO nm xs i j ks).length=ks.length:=by
 intro ks;induction ks with
 |nil=>intro j;rfl
 |cons k ks ih=>intro j;cases k<;>simp[xO,ih]
theorem pC{ks ks2:ax Ck}{j:aG}{y:ax CV}(hy:y.map CV.kd=ks)(h:(ks.drop j).take ks2.length=ks2){q:aG}(hq:q<ks2.length):∃x,y[j+q]? =ah x/\ks2[q]? =ah x.kd:=by
 have h1:ks2[q]? =ks[j+q]? :=by rw[<-h,dU,ba hq,dK]
 rw[<-hy,bg]at h1;cases hx:y[j+q]? with
 |none=>rw[hx]at h1;simp at h1;omega
 |some x=>exact⟨x,rfl,by rw[h1,hx];rfl⟩
section
variable {P:cC} {E:eL} {σ:St} {a:Act} {w:bw} {c:dZ}
theorem pB{p:Pl}{G:aG->aG->Pl}{xs:Row}{ks:ax Ck}{i j e2:aG}(fN:ij w p xs (λi j u x=>if aj=aj then XC E w G i j u x else cK E w c.K u x))(jI:∀y∈xs,y.map CV.kd=ks)(hi:i<p.n)(hk:ks[j]? =ah (.l e2)):
  ∃ys y,xs[i]? =ah y/\y[j]? =ah (.l e2 ys)/\∃u,XC E w G i j u (.l e2 ys):=by
 have j_:i<xs.length:=by rw[<-fN.n];exact hi
 have hy:xs[i]? =ah xs[i]:=by simp[j_]
 have h1:=jI xs[i] (bH j_);rw[<-h1,bg]at hk;cases hx:xs[i][j]? with
 |none=>rw[hx]at hk;cases hk
 |some x=>
  rw[hx]at hk;cases x with
  |l e ys=>
   cases hk;have iq:p.nil=false:=by
    cases hn:p.nil with
    |false=>rfl
    |true=>have:=(fN.nil hn).1;subst this;simp at j_
   obtain⟨vals,_,_,_,_,nC⟩:=fN.mem iq;obtain⟨u,_,hr⟩:=nC i _ j _ hy hx;rw[ba rfl]at hr;exact⟨ys,_,hy,hx,u,hr⟩
  |i=>cases hk
  |b=>cases hk
  |s=>cases hk
theorem g9{ks:ax Ck}(h:plain ks=aj){y:ax CV}(hy:y.map CV.kd=ks){j:aG}{x:CV}(hx:y[j]? =ah x):sI x=false:=by
 have h1:x.kd∈ks:=by rw[<-hy];exact cD.2 ⟨x,aM hx,rfl⟩
 have h2:=bf.1 h _ h1;cases x<;>simp_all [CV.kd,sI]
structure Ni (E:eL) (σ:St) (w:bw) (c:dZ) (ti:TI) (v:a7) (xs:ax AV):Prop where
 ex:∃(b o:aG) (cs:ax a7),v= .pointer (ah (ad b o))/\cs.length=ti.ks.length/\(∀(j:aG) (u:a7),cs[j]? =ah u->w.cell? (ad b (o+j))=ah u)/\
  xs.length=ti.ks.length/\(∀(j:aG) (x:AV),xs[j]? =ah x->∃u:a7,cs[j]? =ah u/\dN E w c x u)
 kn:∀x∈xs,iu σ x
theorem kW{ti:TI}{b o:aG}{xs:ax AV}(hl:xs.length=ti.ks.length)(h:∀(j:aG) (x:AV),xs[j]? =ah x->∃u:a7,w.cell? (ad b (o+j))=ah u/\dN E w c x u)(hk:∀x∈xs,iu σ x):
  Ni E σ w c ti (.pointer (ah (ad b o))) xs:=by
 refine⟨⟨b,o,(ej xs.length).map (λj=>(w.cell? (ad b (o+j))).getD undef),rfl,by simp[hl], ?_,hl, ?_⟩,hk⟩
 ·intro j u hu;simp only[bg]at hu;by_cases hj:j<xs.length
  ·obtain⟨u',qx,_⟩:=h j xs[j] (by simp[hj]);simp only[hj,s9,fM,qx,vJ,iF]at hu;rw[qx,hu]
  ·simp[jK (l:=ej xs.length) (by simpa using hj)]at hu
 ·intro j x hx;obtain⟨u,hu,hv⟩:=h j x hx;refine⟨u, ?_,hv⟩
  have hj:j<xs.length:=(aP.1 hx).1;simp[hj,hu]
theorem OY(hok:Ok E σ w c){ti:TI}{p:AV}{v:a7}{xs:ax AV}(hp:dN E w c p v)(h:(qz E ti p).val σ=ah xs):Ni E σ w c ti v xs:=by
 have T5:∀(n:aG) (k:Ck) (x:CV),n∈bm (dec k x)->σ (cG n)≠ .iN:=λn k x hn=>by rw[LA]at hn;simp at hn
 cases p with
 |bp nm j=>
  obtain⟨o,ho,h2⟩:=Rd.bind_some h;have mc:=hok.obj nm o (cW ho);obtain rfl:v=_:=hp;cases o with
  |box ys=>
   obtain⟨hle,h3⟩:=b9 h2;have hle:=cf hle;obtain rfl:=aD h3;obtain⟨vals,hb,hs,hc⟩:=mc;refine kW (by simp;omega) (λq x hx=> ?_) (λx hx=>hok.kn nm ys (cW ho) x (j6 (kh hx)));rw[dU]at hx;split at hx
   ·rw[dK]at hx;obtain⟨u,hu,hv⟩:=hc (j+q) x hx;exact⟨u,(hb.cell (j+q)).trans hu,hv⟩
   ·cases hx
  |mV cs=>
   obtain⟨hle,h3⟩:=b9 h2;have hle:=cf hle;obtain rfl:=aD h3;refine kW (by simp;omega) (λq x hx=> ?_) (λx hx=> ?_)
   ·rw[bg,dU]at hx;split at hx
    ·rw[dK]at hx;cases hy:cs[j+q]? with
     |none=>rw[hy]at hx;cases hx
     |some y=>rw[hy]at hx;cases hx;obtain⟨u,hu,hv⟩:=mc.2 (j+q) y hy;exact⟨u,hu,JR hv⟩
    ·cases hx
   ·obtain⟨y,_,rfl⟩:=cD.1 hx;intro n hn;rw[zX]at hn;simp at hn
  |row=>simp at h2
  |eU=>simp at h2
  |dead=>simp at h2
 |fp cs j=>
  obtain⟨hle,h3⟩:=b9 h;have hle:=cf hle;obtain rfl:=aD h3;obtain⟨b,rfl,hb⟩:=hp;refine kW (by simp;omega) (λq x hx=> ?_) (λx hx=> ?_)
  ·rw[bg,dU]at hx;split at hx
   ·rw[dK]at hx;cases hy:cs[j+q]? with
    |none=>rw[hy]at hx;cases hx
    |some y=>rw[hy]at hx;cases hx;obtain⟨u,hu,hv⟩:=hb.2 (j+q) y hy;exact⟨u,hu,JR hv⟩
   ·cases hx
  ·obtain⟨y,_,rfl⟩:=cD.1 hx;intro n hn;rw[zX]at hn;simp at hn
 |sp e ys i j=>
  obtain⟨te,ht,h2⟩:=Rd.bind_some h;have ht:=dz ht;obtain⟨hk,h3⟩:=b9 h2;have hk:=p9 hk;obtain rfl:=aD h3;obtain⟨b,o,cp,ti2,hh,hi,Fy,rfl⟩:=hp;obtain rfl:te=ti2:=aD (ht.symm.trans Fy);refine kW (jF _ _ _ _) (λq x hx=> ?_) (λx hx=> ?_)
  ·rw[kj]at hx;obtain⟨ti3,U,hL⟩:=hh.FJ (by omega);obtain rfl:te=ti3:=aD (ht.symm.trans hL.ty);have hq:q<ti.ks.length:=by
    cases hq:ti.ks[q]? with
    |none=>rw[hq]at hx;cases hx
    |some k=>exact(aP.1 hq).1
   have hy:ys[i]? =ah ys[i]:=by simp[hi]
   obtain⟨z,hz,tw⟩:=pC (hL.sh ys[i] (bH hi)) hk hq;rw[tw]at hx;cases hx;rw[ea hy hz];exact⟨U i (j+q),by have:=hL.cell i (j+q) _ z hy hz;rwa[show o+i*te.ks.length+j+q=o+i*te.ks.length+(j+q)by omega],Hg (hL.la i (j+q) _ z hy hz)⟩
  ·obtain⟨q,hq⟩:=bQ hx;rw[kj]at hq;cases tw:ti.ks[q]? with
   |none=>rw[tw]at hq;cases hq
   |some k=>rw[tw]at hq;cases hq;intro n hn;exact T5 n _ _ hn
 |rp nm i j=>
  obtain⟨o,ho,h2⟩:=Rd.bind_some h;have ho:=cW ho;have mc:=hok.obj nm o ho;obtain⟨hi,rfl⟩:=hp;cases o with
  |row e ex ys=>
   obtain⟨te,ht,h2⟩:=Rd.bind_some h2;have ht:=dz ht;obtain⟨hk,h3⟩:=b9 h2;have hk:=p9 hk;have h3:(ex=aj/\plain ti.ks=aj/\xs=sH ys i j ti.ks)\/((ex=ao\/tX nm=ao)/\xs=bif ex then xO nm ys i j ti.ks else sH ys i j ti.ks):=by
    cases hF:(ex&&tX nm)with
    |true=>rw[hF,aw]at h3;obtain⟨sR,h3⟩:=b9 h3;rw[aJ]at hF;exact .inl ⟨hF.1,sR,(aD h3).symm⟩
    |false=>
     rw[hF,az]at h3;refine .inr ⟨?_,(aD h3).symm⟩;cases ex with
     |false=>exact .inl rfl
     |true=>exact .inr (by simpa using hF)
   obtain⟨⟨ti2,Fy,hsz,jI⟩,fN,_⟩:=mc;obtain rfl:te=ti2:=aD (ht.symm.trans Fy);have iq:(c.P nm).nil=false:=by
    cases hn:(c.P nm).nil with
    |false=>rfl
    |true=>have:=(fN.nil hn).1;subst this;rw[fN.n]at hi;simp at hi
   obtain⟨vals,hb,Vy,_,mD,nC⟩:=fN.mem iq;have j_:i<ys.length:=by rw[<-fN.n];exact hi
   have hy:ys[i]? =ah ys[i]:=by simp[j_]
   rcases h3 with ⟨rfl,sR,rfl⟩|h3
   ·refine kW (jF _ _ _ _) (λq x hx=> ?_) (λx hx=> ?_)
    ·have hq:q<ti.ks.length:=by have:=(aP.1 hx).1;simpa [jF]using this
     obtain⟨z,hz,tw⟩:=pC (jI ys[i] (bH j_)) hk hq;obtain⟨u,hu,hr⟩:=nC i _ (j+q) z hy hz;rw[ba rfl]at hr;rw[kj,tw]at hx;cases hx;refine⟨u, ?_, ?_⟩
     ·rw[hb.cell];rw[<-hu];congr 1;omega
     ·have hzk:=bf.1 sR z.kd (aM tw);show dN E w c (dec z.kd (au ys i (j+q))) u;rw[ea hy hz];cases z with
      |l e2 zs=>cases hzk
      |i k n=>exact nP rfl hr
      |b t=>exact nP rfl hr
      |s t=>exact nP rfl hr
    ·obtain⟨q,hq⟩:=bQ hx;intro n hn;rw[kj]at hq;cases tw:ti.ks[q]? with
     |none=>rw[tw]at hq;cases hq
     |some k=>rw[tw]at hq;cases hq;exact T5 n _ _ hn
   obtain⟨hFn,rfl⟩:=h3;refine kW (by cases ex<;>simp[jF,wZ]) (λq x hx=> ?_) (λx hx=> ?_)
   ·have hq:q<ti.ks.length:=by have:=(aP.1 hx).1;cases ex<;>simpa [jF,wZ]using this
    obtain⟨z,hz,tw⟩:=pC (jI ys[i] (bH j_)) hk hq;obtain⟨u,hu,hr⟩:=nC i _ (j+q) z hy hz;refine⟨u, ?_, ?_⟩
    ·rw[hb.cell];rw[<-hu];congr 1;omega
    ·cases ex with
     |false=>rw[a_ (by simp)]at hr;have hx:(sH ys i j ti.ks)[q]? =ah x:=hx;rw[kj,tw]at hx;cases hx;rw[ea hy hz];exact Hg hr
     |true=>
      rw[ba rfl]at hr;have hx:(xO nm ys i j ti.ks)[q]? =ah x:=hx;rw[EX,tw]at hx;cases z with
      |l e2 zs=>cases hx;exact⟨⟨hi,hr.1⟩,hFn.resolve_left (by simp)⟩
      |i k n=>cases hx;rw[ea hy hz];exact nP rfl hr
      |b t=>cases hx;rw[ea hy hz];exact nP rfl hr
      |s t=>cases hx;rw[ea hy hz];exact nP rfl hr
   ·obtain⟨q,hq⟩:=bQ hx;intro n hn;cases ex with
    |false=>
     have hq:(sH ys i j ti.ks)[q]? =ah x:=hq;rw[kj]at hq;cases tw:ti.ks[q]? with
     |none=>rw[tw]at hq;cases hq
     |some k=>rw[tw]at hq;cases hq;exact T5 n _ _ hn
    |true=>
     have hq:(xO nm ys i j ti.ks)[q]? =ah x:=hq;rw[EX]at hq;cases tw:ti.ks[q]? with
     |none=>rw[tw]at hq;cases hq
     |some k=>
      rw[tw]at hq;cases k with
      |l e2=>cases hq;simp[bm]at hn;subst hn;rw[ho];simp
      |i=>cases hq;exact T5 n _ _ hn
      |b=>cases hq;exact T5 n _ _ hn
      |s=>cases hq;exact T5 n _ _ hn
      |o=>cases hq;exact T5 n _ _ hn
  |eU e ys=>
   obtain⟨te,ht,h2⟩:=Rd.bind_some h2;have ht:=dz ht;obtain⟨hk,h3⟩:=b9 h2;have hk:=p9 hk;obtain rfl:=aD h3;obtain⟨hh,hn,ti2,Fy,hsz⟩:=mc;obtain rfl:te=ti2:=aD (ht.symm.trans Fy);have j_:i<ys.length:=by rw[<-hn];exact hi
   have hy:ys[i]? =ah ys[i]:=by simp[j_]
   have iq:(c.P nm).nil=false:=by
    cases hq:(c.P nm).nil with
    |false=>rfl
    |true=>unfold mb at hh;rw[ba hq]at hh;cases hh;simp at j_
   unfold mb at hh;rw[a_ (by simp[iq]),hn]at hh;refine kW (jF _ _ _ _) (λq x hx=> ?_) (λx hx=> ?_)
   ·rw[kj]at hx;obtain⟨ti3,U,hL⟩:=hh.FJ (by omega);obtain rfl:te=ti3:=aD (ht.symm.trans hL.ty);have hq:q<ti.ks.length:=by
     cases hq:ti.ks[q]? with
     |none=>rw[hq]at hx;cases hx
     |some k=>exact(aP.1 hq).1
    obtain⟨z,hz,tw⟩:=pC (hL.sh ys[i] (bH j_)) hk hq;rw[tw]at hx;cases hx;rw[ea hy hz];exact⟨U i (j+q),by have:=hL.cell i (j+q) _ z hy hz;rw[<-this];congr 2;rw[hsz];omega,Hg (hL.la i (j+q) _ z hy hz)⟩
   ·obtain⟨q,hq⟩:=bQ hx;rw[kj]at hq;cases tw:ti.ks[q]? with
    |none=>rw[tw]at hq;cases hq
    |some k=>rw[tw]at hq;cases hq;intro n hn;exact T5 n _ _ hn
  |box=>simp at h2
  |mV=>simp at h2
  |dead=>simp at h2
 |ip nm i j i2 j2=>
  obtain⟨o,ho,h2⟩:=Rd.bind_some h;have ho:=cW ho;have mc:=hok.obj nm o ho;obtain⟨⟨m8,hi,rfl⟩,hFp⟩:=hp;cases o with
  |row e ex ys=>
   cases ex with
   |false=>simp at h2
   |true=>
    obtain⟨te,ht,h2⟩:=Rd.bind_some h2;have ht:=dz ht;split at h2
    ·rename_i e2 wW;obtain⟨t2,Fy,h2⟩:=Rd.bind_some h2;have Fy:=dz Fy;obtain⟨hk,h3⟩:=b9 h2;have hk:=p9 hk;obtain rfl:=aD h3;obtain⟨⟨tj,SS,hsz,jI⟩,fN,_⟩:=mc;obtain rfl:te=tj:=aD (ht.symm.trans SS);obtain⟨zs,y,hy,S1,uu,_,tk,DA,sR,HF,zR,lM⟩:=pB (c:=c) fN jI m8 wW;obtain rfl:t2=tk:=aD (Fy.symm.trans DA);rw[ea hy S1];refine kW (jF _ _ _ _) (λq x hx=> ?_) (λx hx=> ?_)
     ·rw[kj]at hx;have hq:q<ti.ks.length:=by
       cases hq:ti.ks[q]? with
       |none=>rw[hq]at hx;cases hx
       |some k=>exact(aP.1 hq).1
      have Bj:i2<zs.length:=by rw[<-lM.n];exact hi
      have zP:(c.G nm i j).nil=false:=by
       cases hn:(c.G nm i j).nil with
       |false=>rfl
       |true=>have:=(lM.nil hn).1;subst this;simp at Bj
      obtain⟨vals,hb,_,_,_,nC⟩:=lM.mem zP;have hzi:zs[i2]? =ah zs[i2]:=by simp[Bj]
      obtain⟨z,hz,tw⟩:=pC (zR zs[i2] (bH Bj)) hk hq;obtain⟨u,hu,hr⟩:=nC i2 _ (j2+q) z hzi hz;rw[tw]at hx;cases hx;refine⟨u, ?_, ?_⟩
      ·rw[hb.cell,<-hu];congr 1;omega
      ·show dN E w c (dec z.kd (au zs i2 (j2+q))) u;rw[ea hzi hz];exact nP (g9 sR (zR _ (bH Bj)) hz) hr
     ·obtain⟨q,hq⟩:=bQ hx;rw[kj]at hq;cases tw:ti.ks[q]? with
      |none=>rw[tw]at hq;cases hq
      |some k=>rw[tw]at hq;cases hq;intro n hn;exact T5 n _ _ hn
    ·simp at h2
  |eU=>simp at h2
  |box=>simp at h2
  |mV=>simp at h2
  |dead=>simp at h2
 |i=>simp[qz]at h
 |b=>simp[qz]at h
 |s=>simp[qz]at h
 |sh=>simp[qz]at h
 |nl=>simp[qz]at h
 |own=>simp[qz]at h
 |vw=>simp[qz]at h
 |la=>simp[qz]at h
 |iv=>simp[qz]at h
 |fn=>simp[qz]at h
end
end Go.FG

namespace Go.FG
section
variable {P:cC} {E:eL} {σ:St} {a:Act} {w:bw} {c:dZ} {o:eD} {nm:aG} {e:qQ}
theorem gZ{s:Sem a7}{v:a7}{w':bw}(hr:s.run P w= .ok v w'):(do pure (Next.value (<-s)):Sem Next).run P w= .ok (.value v) w':=by simp only[bV,hr,bk,cy]
theorem eZ(hok:Ok E σ w c)(dg:eC E σ a w c)(hd:∀d,o.dst=ah d->d<a.tmps.size){s:SV}{v:a7}(h:(val o s).val σ=ah e)(hs:ic E w c s v)(hk:lr σ s)(hr:(execOp a.eval o).run P w= .ok (.value v) w):fO P E σ a w c o e.ws:=by obtain rfl:=aD h;exact eW hok dg hd hs hk hr
theorem Cr(hok:Ok E σ w c)(dg:eC E σ a w c)(hd:∀d,o.dst=ah d->d<a.tmps.size){b:aU}{x:AV}{v:a7}(h:(Il o b x).val σ=ah e)(hc:e.cond=aj)(hs:b=aj->dN E w c x v)(hk:iu σ x)(hr:b=aj->(execOp a.eval o).run P w= .ok (.value v) w):fO P E σ a w c o e.ws:=by obtain rfl:=aD h;have hc:b=true:=hc;exact eW hok dg hd (hs hc) (λn hn=>hk n (by simpa [b8]using hn)) (hr hc)
theorem rZ{σ:St}{x:AV}(h:bm x=[]):iu σ x:=λn hn=>by rw[h]at hn;simp at hn
theorem JU(hok:Ok E σ w c)(dg:eC E σ a w c)(hd:∀d,o.dst=ah d->d<a.tmps.size){x:cY}(ho:o.op= .move x\/o.op= .assign x)(h:(kH E nm o).val σ=ah e):fO P E σ a w c o e.ws:=by
 have h':((DQ x).bind λv=>val o v).val σ=ah e:=by rcases ho with ho|ho<;>simpa [kH,ho]using h
 obtain⟨v,h1,h2⟩:=Rd.bind_some h';obtain⟨hv,hk⟩:=kR dg h1;refine eZ hok dg hd h2 hv hk ?_;rcases ho with ho|ho<;>(unfold execOp;rw[ho];rfl)
theorem FV(hok:Ok E σ w c)(dg:eC E σ a w c)(hd:∀d,o.dst=ah d->d<a.tmps.size){x:cY}(ho:o.op= .nilCheck x)(h:(kH E nm o).val σ=ah e):fO P E σ a w c o e.ws:=by
 simp only[kH,ho]at h;obtain⟨p,h1,h⟩:=Rd.bind_some h;obtain⟨ex,kx⟩:=h_ dg h1;cases p with
 |bp n j=>have rW:a.eval x= .pointer (ah (ad (c.P n).blk j)):=ex;refine eZ hok dg hd h (v:=a.eval x) ex (λn hn=>kx n (by simpa [b8]using hn)) ?_;unfold execOp;rw[ho];simp only[rW];rfl
 |rp n i j=>have rW:a.eval x= .pointer (ah (ad (c.P n).blk ((c.P n).off+i*(c.P n).sz+j))):=ex.2;refine eZ hok dg hd h (v:=a.eval x) ex (λn hn=>kx n (by simpa [b8]using hn)) ?_;unfold execOp;rw[ho];simp only[rW];rfl
 |_=>cases h
theorem Ub(hok:Ok E σ w c)(dg:eC E σ a w c)(hd:∀d,o.dst=ah d->d<a.tmps.size){x y z:cY}(ho:o.op= .pick x y z)(h:(kH E nm o).val σ=ah e)(hc:e.cond=aj):fO P E σ a w c o e.ws:=by
 simp only[kH,ho]at h;obtain⟨cx,h1,h⟩:=Rd.bind_some h;obtain⟨vy,h2,h⟩:=Rd.bind_some h;obtain⟨vz,h3,h⟩:=Rd.bind_some h;obtain⟨ex,kx⟩:=h_ dg h1;obtain⟨ey,ky⟩:=kR dg h2;obtain⟨ez,kz⟩:=kR dg h3;have run:∀b,a.eval x= .bool b->(execOp a.eval o).run P w= .ok (.value (if b then a.eval y else a.eval z)) w:=by intro b hb;unfold execOp;rw[ho];simp only[hb,asBool,bV,cy,bk]
 cases cx with
 |b b=>
  replace ex:a.eval x= .bool b:=ex;have both:∀p q,vy= .v ao [.b p]->vz= .v ao [.b q]->fO P E σ a w c o e.ws:=by
   rintro p q rfl rfl;refine eZ hok dg hd h (v:=if b then a.eval y else a.eval z) ?_ (λn hn=>by simp[b8,bm]at hn) (run b ex);cases b
   ·exact ez
   ·exact ey
  have lft:vy= .jf []->fO P E σ a w c o e.ws:=by
   rintro rfl;replace h:(Rd.ret (⟨!b,dw o vz⟩:qQ)).val σ=ah e:=by cases vz<;>exact h
   obtain rfl:=aD h;have hb:b=false:=by simpa using hc
   subst hb;exact eW hok dg hd ez kz (run ao ex)
  have rgt:vz= .jf []->vy≠ .jf []->fO P E σ a w c o e.ws:=by
   rintro rfl g_;replace h:(Rd.ret (⟨b,dw o vy⟩:qQ)).val σ=ah e:=by
    cases vy with
    |un=>exact h
    |jf l=>cases l with
     |nil=>exact b_ rfl g_
     |cons=>exact h
    |v g xs=>cases g<;>(rcases xs with _|⟨⟨⟩,_|⟨_,_⟩⟩<;>exact h)
   obtain rfl:=aD h;have hb:b=true:=hc;subst hb;exact eW hok dg hd ey ky (run aj ex)
  cases vy with
  |un=>cases vz with
   |un=>simp at h
   |jf l=>cases l with
    |nil=>exact rgt rfl (by simp)
    |cons=>simp at h
   |v=>simp at h
  |jf l=>cases l with
   |nil=>exact lft rfl
   |cons=>cases vz with
    |un=>simp at h
    |jf l2=>cases l2 with
     |nil=>exact rgt rfl (by simp)
     |cons=>simp at h
    |v=>simp at h
  |v g xs=>cases vz with
   |un=>simp at h
   |jf l2=>cases l2 with
    |nil=>exact rgt rfl (by simp)
    |cons=>simp at h
   |v g2 ys=>cases g<;>cases g2<;>rcases xs with _|⟨⟨⟩,_|⟨_,_⟩⟩<;>rcases ys with _|⟨⟨⟩,_|⟨_,_⟩⟩<;>first|(simp at h;done)|exact both _ _ rfl rfl
 |i=>simp at h
 |s=>simp at h
 |sh=>simp at h
 |nl=>simp at h
 |own=>simp at h
 |vw=>simp at h
 |bp=>simp at h
 |rp=>simp at h
 |sp=>simp at h
 |la=>simp at h
 |ip=>simp at h
 |iv=>simp at h
 |fn=>simp at h
 |fp=>simp at h
theorem Ua(hE:dP P E)(hok:Ok E σ w c)(dg:eC E σ a w c)(hd:∀d,o.dst=ah d->d<a.tmps.size){t:aG}{p:cY}(ho:o.op= .load t p)(h:(kH E nm o).val σ=ah e):fO P E σ a w c o e.ws:=by
 simp only[kH,ho]at h;obtain⟨ti,h1,h⟩:=Rd.bind_some h;obtain⟨pv,h2,h⟩:=Rd.bind_some h;obtain⟨xs,h3,h⟩:=Rd.bind_some h;have ht:=dz h1;obtain⟨ep,_⟩:=h_ dg h2;obtain⟨⟨b,of,cs,hv,hl,hcell,hlen,Rf⟩,Ft⟩:=OY hok ep h3;have hr:=Au (P:=P) w hE ht hl hcell;refine eZ hok dg hd h (v:=if ti.agg=aj then .agg cs.toArray else cs.headD .nilIface) ?_ (λn hn=>by obtain⟨x,hx,hn⟩:=bz.1 hn;exact Ft x hx n hn) ?_
 ·show o_ E w c ti.agg xs _;cases rY:ti.agg with
  |true=>rw[ba rfl];exact⟨cs.toArray,rfl,by simp[hl,hlen],λj x hj=>by obtain⟨u,hu,hx⟩:=Rf j x hj;exact⟨u,by simpa using hu,hx⟩⟩
  |false=>
   obtain⟨d,_,_,hn⟩:=hE.desc t ti ht;have h1:ti.ks.length=1:=by rcases hn rY with ⟨k,h,_⟩|⟨h,_⟩|⟨h,_⟩|⟨e',h,_⟩|⟨h,_⟩<;>simp[h]
   obtain⟨x,rfl⟩:=fW.1 (hlen.trans h1);obtain⟨v,rfl⟩:=fW.1 (hl.trans h1);obtain⟨u,hu,hx⟩:=Rf 0 x rfl;simp at hu;subst hu;simpa [o_]using hx
 ·unfold execOp;rw[ho];exact gZ (by rw[hv];exact hr)
theorem DN(hE:dP P E)(hok:Ok E σ w c)(dg:eC E σ a w c)(hd:∀d,o.dst=ah d->d<a.tmps.size){t f:aG}{p:cY}(ho:o.op= .fieldAddr t p f)(h:(kH E nm o).val σ=ah e):fO P E σ a w c o e.ws:=by
 simp only[kH,ho]at h;obtain⟨pv,h1,h⟩:=Rd.bind_some h;obtain⟨q,h2,h⟩:=Rd.bind_some h;obtain⟨ep,kp⟩:=h_ dg h1;unfold N3 at h2;cases hf:E.fo t f with
 |none=>rw[hf]at h2;simp at h2
 |some r=>
  obtain⟨off,n⟩:=r;rw[hf]at h2;have run:∀b o',a.eval p= .pointer (ah (ad b o'))->(execOp a.eval o).run P w= .ok (.value (.pointer (ah (ad b (o'+off))))) w:=by intro b o' hp;unfold execOp;rw[ho];exact gZ (by rw[hp];exact F_ (P:=P) w hE hf b o')
  cases pv with
  |bp fL j=>obtain rfl:=aD h2;exact eZ hok dg hd h (s:= .v ao [.bp fL (j+off)]) (v:= .pointer (ah (ad (c.P fL).blk (j+off)))) rfl (λn hn=>kp n (by simpa [b8,bm]using hn)) (run _ _ ep)
  |rp fL i j=>obtain rfl:=aD h2;refine eZ hok dg hd h (s:= .v ao [.rp fL i (j+off)]) ?_ (λn hn=>kp n (by simpa [b8,bm]using hn)) (run _ _ ep.2);exact⟨ep.1,by rw[show(c.P fL).off+i*(c.P fL).sz+j+off=(c.P fL).off+i*(c.P fL).sz+(j+off)by omega]⟩
  |sp e2 xs i j=>obtain rfl:=aD h2;obtain⟨b,o',cp,ti,e1,Sh,e3,e4⟩:=ep;refine eZ hok dg hd h (s:= .v ao [.sp e2 xs i (j+off)]) ?_ (λn hn=>by simp[b8,bm]at hn) (run _ _ e4);exact⟨b,o',cp,ti,e1,Sh,e3,by rw[show o'+i*ti.ks.length+j+off=o'+i*ti.ks.length+(j+off)by omega]⟩
  |ip fL i j i2 j2=>obtain rfl:=aD h2;refine eZ hok dg hd h (s:= .v ao [.ip fL i j i2 (j2+off)]) ?_ (λn hn=>kp n (by simpa [b8,bm]using hn)) (run _ _ ep.1.2.2);exact⟨⟨ep.1.1,ep.1.2.1,by rw[show(c.G fL i j).off+i2*(c.G fL i j).sz+j2+off=(c.G fL i j).off+i2*(c.G fL i j).sz+(j2+off)by omega]⟩,ep.2⟩
  |fp cs j=>obtain rfl:=aD h2;obtain⟨b,e1,Sh⟩:=ep;exact eZ hok dg hd h (s:= .v ao [.fp cs (j+off)]) ⟨b,rfl,Sh⟩ (λn hn=>by simp[b8,bm]at hn) (run _ _ e1)
  |i=>simp at h2
  |b=>simp at h2
  |s=>simp at h2
  |sh=>simp at h2
  |nl=>simp at h2
  |own=>simp at h2
  |vw=>simp at h2
  |la=>simp at h2
  |iv=>simp at h2
  |fn=>simp at h2
theorem HY(hok:Ok E σ w c)(dg:eC E σ a w c)(hd:∀d,o.dst=ah d->d<a.tmps.size){x:cY}{i:aG}(ho:o.op= .extract x i)(h:(kH E nm o).val σ=ah e):fO P E σ a w c o e.ws:=by
 simp only[kH,ho]at h;obtain⟨v,h1,h⟩:=Rd.bind_some h;obtain⟨ev,kv⟩:=kR dg h1;split at h
 ·rename_i l;split at h
  ·rename_i agg xs hl;obtain⟨vs,e1,e2,e3⟩:=ev;obtain⟨u,hu,hv⟩:=e3 i agg xs hl;refine eZ hok dg hd h (v:=u) hv (λn hn=>kv n (bz.2 ⟨(agg,xs),aM hl,hn⟩)) ?_;unfold execOp;rw[ho];refine gZ ?_;rw[e1];simp only[Instr.extract,hu];rfl
  ·simp at h
 ·simp at h
theorem Uc(hok:Ok E σ w c)(dg:eC E σ a w c)(hd:∀d,o.dst=ah d->d<a.tmps.size){x:cY}{op:UnOp}{t:aG}(ho:o.op= .unOp op t x)(h:(kH E nm o).val σ=ah e):fO P E σ a w c o e.ws:=by
 simp only[kH,ho]at h;obtain⟨v,h1,h⟩:=Rd.bind_some h;obtain⟨ev,kv⟩:=h_ dg h1;cases op with
 |not=>
  cases v with
  |b b=>refine eZ hok dg hd h (v:= .bool !b) rfl (λn hn=>by simp[b8,bm]at hn) ?_;unfold execOp;rw[ho];refine gZ ?_;rw[show a.eval x= .bool b from ev];rfl
  |_=>simp at h
 |neg=>
  cases v with
  |i k n=>refine eZ hok dg hd h (v:= .int k (k.wrap (0-n))) rfl (λn hn=>by simp[b8,bm]at hn) ?_;unfold execOp;rw[ho];refine gZ ?_;rw[show a.eval x= .int k n from ev];rfl
  |_=>simp at h
 |_=>cases v<;>simp at h
theorem qc{E:eL}{σ:St}{t:aG}{k:Ck}(h:(oC E t).val σ=ah k):∃ti,E.ty t=ah ti/\ti.agg=ao/\ti.ks=[k]:=by
 obtain⟨ti,h1,h2⟩:=Rd.bind_some h;split at h2
 ·rename_i k' h3 h4;simp at h2;subst h2;exact⟨ti,dz h1,h3,h4⟩
 ·simp at h2
theorem jD{E:eL}{σ:St}(hE:dP P E){t e:aG}(h:(oC E t).val σ=ah (.l e)):P.underlying t=ah (.slice e):=by obtain⟨ti,h1,h2,h3⟩:=qc h;exact nR hE h1 h2 h3
theorem jQ{E:eL}{σ:St}(hE:dP P E){t:aG}(h:(oC E t).val σ=ah .s):P.underlying t=ah .string:=by obtain⟨ti,h1,h2,h3⟩:=qc h;obtain⟨d,hd,_,hn⟩:=hE.desc t ti h1;rcases hn h2 with ⟨k,h,_⟩|⟨h,_⟩|⟨h,rfl⟩|⟨e',h,_⟩|⟨h,_⟩<;>rw[h3]at h<;>simp_all
theorem Pv(hE:dP P E)(hok:Ok E σ w c)(dg:eC E σ a w c)(hd:∀d,o.dst=ah d->d<a.tmps.size){x y:cY}{t:aG}(ho:o.op= .index t x y)(h:(kH E nm o).val σ=ah e)(hc:e.cond=aj):fO P E σ a w c o e.ws:=by
 simp only[kH,ho]at h;obtain⟨kk,h0,h⟩:=Rd.bind_some h;obtain⟨v,h1,h⟩:=Rd.bind_some h;obtain⟨⟨k,n⟩,h2,h⟩:=Rd.bind_some h;obtain⟨ev,kv⟩:=h_ dg h1;have ei:=oD dg h2;cases kk with
 |s=>cases v with
  |s s=>
   have hu:=jQ hE h0;refine Cr hok dg hd h hc (v:= .int .u8 ((s.data.getD n.toNat 0).toNat:ay)) (λ_=>rfl) (rZ rfl) (λhb=> ?_);simp only[aJ,aZ]at hb;obtain⟨h0,h3⟩:=hb;unfold execOp;rw[ho];refine gZ ?_;replace ev:a.eval x= .string s:=ev.1;have jj:n.toNat<s.size:=by omega
   have hg:s[n.toNat]? =ah s[n.toNat]:=by simp[jj]
   have hs:s[n.toNat]=s.data.getD n.toNat 0:=by rw[Array.getD,dif_pos (show n.toNat<s.data.size from jj)];rfl
   simp only[ev,ei,Instr.index,asIntOf,bV,cy,bk,run_underlying hu,h0,if_true,hg,hs]
  |_=>simp at h
 |_=>simp at h
end
end Go.FG

namespace Go.FG
section
variable {P:cC} {E:eL} {σ:St} {a:Act} {w:bw} {c:dZ} {o:eD} {nm:aG} {e:qQ}
theorem pe{α:Type}{b:aU}{x:α}{σ:St}{r:α}(h:(bif b then Rd.ret x else Rd.fail).val σ=ah r):b=aj/\r=x:=by obtain⟨h1,h2⟩:=b9 h;exact⟨h1,(aD h2).symm⟩
theorem fa{p:Pl}(h:p.nil=ao):mb p= .slice (ah (ad p.blk p.off)) p.n p.cap:=by unfold mb;rw[a_ (by simp[h])]
theorem nj{p:Pl}(h:p.nil=aj):mb p= .slice ai 0 0:=by unfold mb;rw[ba h]
theorem jR{nm e:aG}{ex:aU}{xs:Row}(hok:Ok E σ w c)(h:σ (cG nm)= .o (.row e ex xs)):
  (c.P nm).n=xs.length/\((c.P nm).nil=aj->xs=[])/\∃ti,E.ty e=ah ti/\(c.P nm).sz=ti.ks.length/\((c.P nm).nil=ao->(c.P nm).n<=(c.P nm).cap/\(c.P nm).cap<=maxLen):=by have mc:=hok.obj nm _ h;obtain⟨ti,h1,h2,_⟩:=mc.sh;exact⟨mc.at_.n,λhn=>(mc.at_.nil hn).1,ti,h1,h2,λhn=>by obtain⟨_,_,h3,h4,_⟩:=mc.at_.mem hn;exact⟨h3,h4⟩⟩
theorem lC{nm e:aG}{xs:Row}(hok:Ok E σ w c)(h:σ (cG nm)= .o (.eU e xs)):
  (c.P nm).n=xs.length/\((c.P nm).nil=aj->xs=[])/\∃ti,E.ty e=ah ti/\(c.P nm).sz=ti.ks.length:=by
 obtain⟨h1,h2,h3⟩:=hok.obj nm _ h;refine⟨h2,λhn=> ?_,h3⟩
 rw[nj hn]at h1;cases h1;rfl
theorem DO(hE:dP P E)(hok:Ok E σ w c)(dg:eC E σ a w c)(hd:∀d,o.dst=ah d->d<a.tmps.size){x y:cY}{t:aG}(ho:o.op= .indexAddr t x y)(h:(kH E nm o).val σ=ah e)(hc:e.cond=aj):fO P E σ a w c o e.ws:=by
 simp only[kH,ho]at h;obtain⟨kk,h0,h⟩:=Rd.bind_some h;cases kk with
 |l el=>
  obtain⟨v,h1,h⟩:=Rd.bind_some h;obtain⟨⟨k,n⟩,h2,h⟩:=Rd.bind_some h;obtain⟨⟨b,q⟩,h3,h⟩:=Rd.bind_some h;obtain⟨ev,kv⟩:=h_ dg h1;have ei:=oD dg h2;have hu:=jD hE h0;have run:∀te b o' m cp,E.ty el=ah te->a.eval x= .slice (ah (ad b o')) m cp->0<=n->n<(m:ay)->(execOp a.eval o).run P w= .ok (.value (.pointer (ah (ad b (o'+n.toNat*te.ks.length))))) w:=by intro te b o' m cp HG hx h0 h1;unfold execOp;rw[ho];refine gZ ?_;rw[hx,ei];exact Ga (P:=P) w hE hu HG b o' m cp k n h0 h1
  cases v with
  |sh e' xs=>
   obtain⟨zK,h3⟩:=pe h3;obtain⟨rfl,rfl⟩:=bF h3;have:=aN zK;subst this;obtain rfl:=aD h;have hc:(decide (0<=n)&&decide (n<(xs.length:ay)))=true:=hc;simp only[aJ,aZ]at hc;obtain⟨c0,c1⟩:=hc;have ev:cK E w c.K (a.eval x) (.l el xs):=ev;generalize hv:a.eval x=v at ev;have g_:0<xs.length:=by omega
   cases ev with
   |nl=>simp at g_
   |l _ _ bb oo cc ti U ht Ld hmx hK hs hcell g6=>exact eW hok dg hd (s:= .v ao [.sp el xs n.toNat 0]) (v:= .pointer (ah (ad bb (oo+n.toNat*ti.ks.length)))) ⟨bb,oo,cc,ti, .l el xs bb oo cc ti U ht Ld hmx hK hs hcell g6,by omega,ht,rfl⟩ (λn hn=>by simp[b8,bm]at hn) (run ti bb oo _ cc ht hv c0 c1)
  |own fL=>
   obtain⟨ob,hg,h3⟩:=Rd.bind_some h3;have hg:=cW hg;have main:∀(xs:Row),(c.P fL).n=xs.length->((c.P fL).nil=aj->xs=[])->(∃ti,E.ty el=ah ti/\(c.P fL).sz=ti.ks.length)->(b,q)=(decide (0<=n)&&decide (n<(xs.length:ay)),AV.rp fL n.toNat 0)->fO P E σ a w c o e.ws:=by
    intro xs hn iq SW hbq;obtain⟨rfl,rfl⟩:=bF hbq;obtain rfl:=aD h;have hc:(decide (0<=n)&&decide (n<(xs.length:ay)))=true:=hc;simp only[aJ,aZ]at hc;obtain⟨c0,c1⟩:=hc;obtain⟨ti,ht,hsz⟩:=SW;have Lh:(c.P fL).nil=false:=by
     cases hq:(c.P fL).nil with
     |false=>rfl
     |true=>rw[iq hq]at c1;simp at c1;omega
    have hx:a.eval x= .slice (ah (ad (c.P fL).blk (c.P fL).off)) (c.P fL).n (c.P fL).cap:=by rw[<-fa Lh];exact ev
    refine eW hok dg hd (s:= .v ao [.rp fL n.toNat 0]) (v:= .pointer (ah (ad (c.P fL).blk ((c.P fL).off+n.toNat*ti.ks.length)))) ⟨by omega,by rw[hsz];rfl⟩ (λm hm=>by simp[b8,bm]at hm;subst hm;rw[hg];simp) (run ti _ _ _ _ ht hx c0 (by rw[hn];exact c1))
   cases ob with
   |row e' ex xs=>obtain⟨zK,h4⟩:=pe h3;have:=aN zK;subst this;obtain⟨i1,i2,ti,i3,i4,_⟩:=jR hok hg;exact main xs i1 i2 ⟨ti,i3,i4⟩ h4
   |eU e' xs=>obtain⟨zK,h4⟩:=pe h3;have:=aN zK;subst this;obtain⟨i1,i2,i3⟩:=lC hok hg;exact main xs i1 i2 i3 h4
   |_=>simp at h3
  |vw fL lo hi=>
   obtain⟨ob,hg,h3⟩:=Rd.bind_some h3;have hg:=cW hg;have main:∀(xs:Row),(c.P fL).n=xs.length->(∃ti,E.ty el=ah ti/\(c.P fL).sz=ti.ks.length)->(b,q)=(decide (0<=n)&&decide (n<((hi-lo:aG):ay)),AV.rp fL (lo+n.toNat) 0)->fO P E σ a w c o e.ws:=by
    intro xs hn SW hbq;obtain⟨rfl,rfl⟩:=bF hbq;obtain rfl:=aD h;have hc:(decide (0<=n)&&decide (n<((hi-lo:aG):ay)))=true:=hc;simp only[aJ,aZ]at hc;obtain⟨c0,c1⟩:=hc;obtain⟨ti,ht,hsz⟩:=SW;obtain⟨v1,v2,v3,v4⟩:=ev;have Lh:(c.P fL).nil=false:=by
     cases hq:(c.P fL).nil with
     |false=>rfl
     |true=>
      obtain⟨f1,_⟩:(c.P fL).n=0/\True:=by
       have mc:=hok.obj fL _ hg;rw[hn];cases ob with
       |row e' ex ys=>obtain⟨j1,j2,_⟩:=jR hok hg;rw[<-hn,j1,j2 hq];simp
       |eU e' ys=>obtain⟨j1,j2,_⟩:=lC hok hg;rw[<-hn,j1,j2 hq];simp
       |_=>simp at h3
      omega
    rcases v4 Lh with ⟨u1,hx⟩|⟨u1,oo,u2,hx⟩
    ·refine eW hok dg hd (s:= .v ao [.rp fL (lo+n.toNat) 0]) (v:= .pointer (ah (ad (c.P fL).blk ((c.P fL).off+lo*(c.P fL).sz+n.toNat*ti.ks.length)))) ⟨by omega, ?_⟩ (λm hm=>by simp[b8,bm]at hm;subst hm;rw[hg];simp) (run ti _ _ _ _ ht hx c0 c1);rw[<-hsz,show(c.P fL).off+(lo+n.toNat)*(c.P fL).sz+0=(c.P fL).off+lo*(c.P fL).sz+n.toNat*(c.P fL).sz by rw[dE];omega]
    ·exfalso;have Ld:(c.P fL).n<=(c.P fL).cap:=by
      cases ob with
      |row e' ex ys=>obtain⟨_,_,_,_,_,j⟩:=jR hok hg;exact(j Lh).1
      |eU e' ys=>
       obtain⟨j1,j2,_⟩:=hok.obj fL _ hg;rw[fa Lh]at j1;by_cases hz:0<ys.length
       ·obtain⟨t3,U,L⟩:=j1.FJ hz;rw[j2];exact L.cap
       ·omega
      |_=>simp at h3
     omega
   cases ob with
   |row e' ex xs=>obtain⟨zK,h4⟩:=pe h3;have:=aN zK;subst this;obtain⟨i1,i2,ti,i3,i4,_⟩:=jR hok hg;exact main xs i1 ⟨ti,i3,i4⟩ h4
   |eU e' xs=>obtain⟨zK,h4⟩:=pe h3;have:=aN zK;subst this;obtain⟨i1,i2,i3⟩:=lC hok hg;exact main xs i1 i3 h4
   |_=>simp at h3
  |la fL i j=>
   obtain⟨ob,hg,h3⟩:=Rd.bind_some h3;have hg:=cW hg;cases ob with
   |row e' ex xs=>
    cases ex with
    |false=>simp at h3
    |true=>
     obtain⟨te,ht,h3⟩:=Rd.bind_some h3;have ht:=dz ht;split at h3
     ·rename_i e2 wW;obtain⟨zK,h3⟩:=pe h3;obtain⟨rfl,rfl⟩:=bF h3;have:=aN zK;subst this;obtain rfl:=aD h;obtain⟨⟨m8,hx⟩,hFv⟩:=ev;obtain⟨⟨tj,SS,hsz,jI⟩,fN,_⟩:=hok.obj fL _ hg;obtain rfl:te=tj:=aD (ht.symm.trans SS);obtain⟨zs,y',hy,S1,uu,_,tk,DA,sR,HF,zR,lM⟩:=pB (c:=c) fN jI m8 wW;have hc:(decide (0<=n)&&decide (n<((kU (au xs i j)).length:ay)))=true:=hc;rw[ea hy S1]at hc;simp only[aJ,aZ]at hc;obtain⟨c0,c1⟩:=hc;have c1:n<(zs.length:ay):=c1;have Lh:(c.G fL i j).nil=false:=by
       cases hq:(c.G fL i j).nil with
       |false=>rfl
       |true=>have:=(lM.nil hq).1;subst this;simp at c1;omega
      rw[fa Lh]at hx;refine eW hok dg hd (s:= .v ao [.ip fL i j n.toNat 0]) (v:= .pointer (ah (ad (c.G fL i j).blk ((c.G fL i j).off+n.toNat*tk.ks.length)))) ⟨⟨m8,by rw[lM.n];omega,by rw[HF];rfl⟩,hFv⟩ (λm hm=>by simp[b8,bm]at hm;subst hm;rw[hg];simp) (run tk _ _ _ _ DA hx c0 (by rw[lM.n];exact c1))
     ·simp at h3
   |_=>simp at h3
  |_=>simp[Oz]at h3
 |_=>simp at h
end
end Go.FG

namespace Go.FG
section
variable {P:cC} {E:eL} {σ:St} {a:Act} {w:bw} {c:dZ} {o:eD} {nm:aG} {e:qQ}
theorem yO(dg:eC E σ a w c){x:aA cY}{d n:ay}(h:(lN x d).val σ=ah n):(x=ai/\n=d)\/∃y k,x=ah y/\a.eval y= .int k n:=by
 cases x with
 |none=>exact .inl ⟨rfl,(aD h).symm⟩
 |some y=>obtain⟨⟨k,m⟩,h1,h2⟩:=Rd.bind_some h;obtain rfl:=aD h2;exact .inr ⟨y,k,rfl,oD dg h1⟩
theorem Cj{x:a7}{k:lU}{n:ay}{y:aG}{code:BoundsCode}(hx:x= .int k n)(h0:0<=n)(h1:n<=y):(pG x y code).run P w= .ok n.toNat w:=by subst hx;simp only[pG,asIntOf,bV,cy,bk,h0,h1,and_self,if_true]
theorem Ap(dg:eC E σ a w c){isS:aU}{len cap:aG}{lo hi:aA cY}{l h:ay}(hl:(lN lo 0).val σ=ah l)(hh:(lN hi len).val σ=ah h)(h0:0<=l)(h1:l<=h)(h2:h<=cap):
  (lI isS len cap (lo.map a.eval) (hi.map a.eval) ai).run P w= .ok (l.toNat,h.toNat,cap) w:=by
 have low:∀v,lo=ah v->∀code,(pG (a.eval v) h.toNat code).run P w= .ok l.toNat w:=by
  intro v hv code;rcases yO dg hl with ⟨hx,_⟩|⟨y,k,hx,hy⟩
  ·rw[hx]at hv;cases hv
  ·rw[hx]at hv;cases hv;exact Cj hy h0 (by omega)
 have high:∀v,hi=ah v->∀code,(pG (a.eval v) cap code).run P w= .ok h.toNat w:=by
  intro v hv code;rcases yO dg hh with ⟨hx,_⟩|⟨y,k,hx,hy⟩
  ·rw[hx]at hv;cases hv
  ·rw[hx]at hv;cases hv;exact Cj hy (by omega) h2
 have l0:lo=ai->l=0:=λhx=>by rcases yO dg hl with ⟨_,hn⟩|⟨y,k,hy,_⟩;exact hn;rw[hx]at hy;cases hy
 have Re:hi=ai->h=len:=λhx=>by rcases yO dg hh with ⟨_,hn⟩|⟨y,k,hy,_⟩;exact hn;rw[hx]at hy;cases hy
 cases lo with
 |none=>
  obtain rfl:=l0 rfl;cases hi with
  |none=>obtain rfl:=Re rfl;simp[lI]
  |some v=>simp[lI,high v rfl]
 |some u=>
  cases hi with
  |none=>obtain rfl:=Re rfl;have:=low u rfl;simp only[dD]at this;simp[lI,this]
  |some v=>simp[lI,high v rfl,low u rfl]
theorem H9{t:aG}(hu:P.underlying t=ah .string)(dg:eC E σ a w c){lo hi:aA cY}{l h:ay}{s:aq}(hl:(lN lo 0).val σ=ah l)(hh:(lN hi s.size).val σ=ah h)(h0:0<=l)(h1:l<=h)(h2:h<=(s.size:ay)):
  (o7 t (.string s) (lo.map a.eval) (hi.map a.eval) ai).run P w= .ok (.string (s.extract l.toNat h.toNat)) w:=by simp only[o7,XS,bV,run_underlying hu,bk,Option.isSome_none,cN,if_false,Ap (P:=P) dg hl hh h0 h1 h2,cy]
theorem iz{t el:aG}{te:TI}(hE:dP P E)(hu:P.underlying t=ah (.slice el))(he:E.ty el=ah te)(dg:eC E σ a w c){lo hi:aA cY}{l h:ay}{A:aA Addr}{n cp:aG}(hl:(lN lo 0).val σ=ah l)(hh:(lN hi n).val σ=ah h)(h0:0<=l)(h1:l<=h)(h2:h<=(cp:ay)):
  (o7 t (.slice A n cp) (lo.map a.eval) (hi.map a.eval) ai).run P w= .ok (.slice (if cp=l.toNat then A else A.map (·.add (l.toNat*te.ks.length))) (h.toNat-l.toNat) (cp-l.toNat)) w:=by obtain⟨inf,j_,hsz,_⟩:=hE.info el te he;simp only[o7,XS,bV,run_underlying hu,bk,Ap (P:=P) dg hl hh h0 h1 h2,sizeOf,typeInfo,program,nv,j_,hsz,cy]
theorem rL{xs:Row}{lo hi i:aG}:(dR xs lo hi)[i]? =if i<hi-lo then xs[lo+i]? else none:=by unfold dR;rw[dU];split<;>simp[dK]
theorem kV{xs:Row}{lo hi:aG}(h:hi<=xs.length):(dR xs lo hi).length=hi-lo:=by unfold dR;simp;omega
theorem zW{xs:Row}{lo hi:aG}{y:ax CV}(h:y∈dR xs lo hi):y∈xs:=j6 (kh h)
theorem XF{K:aG->Prop}{v:a7}{el:aG}{xs:Row}{te:TI}(he:E.ty el=ah te)(h:cK E w K v (.l el xs)){lo hi:aG}(h1:lo<=hi)(h2:hi<=xs.length):
  ∃A n cp,v= .slice A n cp/\n=xs.length/\n<=cp\/∃A cp,v= .slice A 0 cp/\xs=[]:=by
 cases h with
 |nl=>exact⟨ai,0,0, .inr ⟨_,_,rfl,rfl⟩⟩
 |l _ _ b oo cp ti U ht hc=>exact⟨_,_,_, .inl ⟨rfl,rfl,hc⟩⟩
theorem B3{K:aG->Prop}{A:aA Addr}{n cp el:aG}{xs:Row}{te:TI}(he:E.ty el=ah te)(h:cK E w K (.slice A n cp) (.l el xs)){lo hi:aG}(h1:lo<=hi)(h2:hi<=xs.length):
  n=xs.length/\cK E w K (.slice (if cp=lo then A else A.map (·.add (lo*te.ks.length))) (hi-lo) (cp-lo)) (.l el (dR xs lo hi)):=by
 generalize hv:XT A n cp=v at h;generalize hx:CV.l el xs=x at h;cases h with
 |i=>cases hx
 |b=>cases hx
 |s=>cases hx
 |nl=>
  cases hx;cases hv;have:hi=0:=by simpa using h2
  subst this;have:lo=0:=by omega
  subst this;exact⟨rfl, .nl _ _ _⟩
 |l _ _ b oo cp ti U ht hc hm hK hs hcell g6=>
  cases hx;cases hv;refine⟨rfl, ?_⟩
  obtain rfl:te=ti:=aD (he.symm.trans ht);by_cases hz:hi-lo=0
  ·rw[hz];have:dR xs lo hi=[]:=by unfold dR;rw[hz];simp
   rw[this];exact .nl _ _ _
  ·rw[a_ (by omega)];simp only[fM,Addr.mT];have hl:=kV (xs:=xs) (lo:=lo) h2;rw[<-hl];refine .l el (dR xs lo hi) b (oo+lo*te.ks.length) (cp-lo) te (λi j=>U (lo+i) j) ht (by rw[hl];omega) (by omega) hK (λy hy=>hs y (zW hy)) (λi j y x j_ hj=> ?_) (λi j y x j_ hj=> ?_)
   ·rw[rL]at j_;split at j_
    ·have:=hcell (lo+i) j y x j_ hj;rw[<-this];congr 2;rw[dE];omega
    ·cases j_
   ·rw[rL]at j_;split at j_
    ·exact g6 (lo+i) j y x j_ hj
    ·cases j_
theorem Pw(hE:dP P E)(hok:Ok E σ w c)(dg:eC E σ a w c)(hd:∀d,o.dst=ah d->d<a.tmps.size){x:cY}{t:aG}{lo hi mx:aA cY}(ho:o.op= .slice t x lo hi mx)(h:(kH E nm o).val σ=ah e)(hc:e.cond=aj):fO P E σ a w c o e.ws:=by
 simp only[kH,ho]at h;cases mx with
 |some m=>simp at h
 |none=>
 obtain⟨kk,hk,h⟩:=Rd.bind_some h;obtain⟨v,h1,h⟩:=Rd.bind_some h;obtain⟨⟨b,q⟩,h3,h⟩:=Rd.bind_some h;obtain⟨ev,kv⟩:=h_ dg h1;have exec:∀{u r:a7},a.eval x=u->(o7 t u (lo.map a.eval) (hi.map a.eval) ai).run P w= .ok r w->(execOp a.eval o).run P w= .ok (.value r) w:=by intro u r hu hr;unfold execOp;rw[ho];exact gZ (by rw[hu];exact hr)
 cases kk with
 |s=>cases v with
  |s s=>have hu:=jQ hE hk;obtain⟨l,hl,h3⟩:=Rd.bind_some h3;obtain⟨hh,tV,h3⟩:=Rd.bind_some h3;obtain⟨rfl,rfl⟩:=bF (aD h3);obtain rfl:=aD h;have hc:gU l hh s.size=true:=hc;simp only[gU,aJ,aZ]at hc;obtain⟨⟨c0,c1⟩,c2⟩:=hc;exact eW hok dg hd (s:= .v ao [.s _]) (v:= .string _) ⟨rfl,by have h5:=ev.2;unfold GF at h5⊢;rw[vn];omega⟩ (λn hn=>by simp[b8,bm]at hn) (exec ev.1 (H9 (P:=P) hu dg hl tV c0 c1 c2))
  |_=>simp[Ie]at h3
 |l el=>
  have hu:=jD hE hk;obtain⟨te,HG,h3⟩:=Rd.bind_some h3;have HG:=dz HG;cases v with
  |sh e' xs=>
   obtain⟨zK,h4⟩:=b9 h3;have:=aN zK;subst this;obtain⟨l,hl,h4⟩:=Rd.bind_some h4;obtain⟨hh,tV,h4⟩:=Rd.bind_some h4;obtain⟨rfl,rfl⟩:=bF (aD h4);obtain rfl:=aD h;have hc:gU l hh xs.length=true:=hc;simp only[gU,aJ,aZ]at hc;obtain⟨⟨c0,c1⟩,c2⟩:=hc;have ev:cK E w c.K (a.eval x) (.l el xs):=ev;generalize hv:a.eval x=v at ev;cases ev with
   |nl _ A cp=>
    have h0:hh=0:=by simp at c2;omega
    have l0:l=0:=by omega
    subst h0;subst l0;have hr:=iz (P:=P) (te:=te) hE hu HG dg (A:=A) (n:=0) (cp:=cp) hl tV (by omega) (by omega) (by omega);exact eW hok dg hd (s:= .v ao [.sh el (dR [] (0:ay).toNat (0:ay).toNat)]) (.nl _ _ _) (λn hn=>by simp[b8,bm]at hn) (exec hv hr)
   |l _ _ bb oo cp ti U ht Ld hmx hK hs hcell g6=>have hr:=iz (P:=P) (te:=ti) hE hu ht dg (A:=ah (ad bb oo)) (cp:=cp) hl tV c0 c1 (by omega);have ajK:=(B3 (lo:=l.toNat) (hi:=hh.toNat) ht (.l el xs bb oo cp ti U ht Ld hmx hK hs hcell g6) (by omega) (by omega)).2;exact eW hok dg hd (s:= .v ao [.sh el (dR xs l.toNat hh.toNat)]) ajK (λn hn=>by simp[b8,bm]at hn) (exec hv hr)
  |own fL=>
   obtain⟨ob,hg,h3⟩:=Rd.bind_some h3;have hg:=cW hg
   have main:∀(xs:Row),(c.P fL).n=xs.length->((c.P fL).nil=aj->xs=[])->(∃ti,E.ty el=ah ti/\(c.P fL).sz=ti.ks.length)->((c.P fL).nil=ao->(c.P fL).n<=(c.P fL).cap)->
     ((lN lo 0).bind λl=>(lN hi xs.length).bind λh=>Rd.ret (gU l h xs.length,AV.vw fL l.toNat h.toNat)).val σ=ah (b,q)->fO P E σ a w c o e.ws:=by
    intro xs hn iq SW hcp h4
    obtain⟨l,hl,h4⟩:=Rd.bind_some h4
    obtain⟨hh,tV,h4⟩:=Rd.bind_some h4
    obtain⟨rfl,rfl⟩:=bF (aD h4)
    obtain rfl:=aD h
    have hc:gU l hh xs.length=true:=hc
    simp only[gU,aJ,aZ]at hc
    obtain⟨⟨c0,c1⟩,c2⟩:=hc
    obtain⟨ti,ht,hsz⟩:=SW
    have ev:a.eval x=mb (c.P fL):=ev
    cases hq:(c.P fL).nil with
    |true=>
     rw[nj hq]at ev;have hx:=iq hq;subst hx;have h0:hh=0:=by simp at c2;omega
     have l0:l=0:=by omega
     subst h0;subst l0;have hr:=iz (P:=P) (te:=ti) hE hu ht dg (A:=ai) (n:=0) (cp:=0) hl tV (by omega) (by omega) (by simp);refine eW hok dg hd (s:= .v ao [.vw fL 0 0]) (v:= .slice ai 0 0) ⟨bR _,bC _,λ_=>rfl,λhf=>by rw[hq]at hf;cases hf⟩ (λm hm=>by simp[b8,bm]at hm;subst hm;rw[hg];simp) (exec ev (by simpa using hr))
    |false=>
     rw[fa hq]at ev;have hcp:=hcp hq;have hr:=iz (P:=P) (te:=ti) hE hu ht dg (A:=ah (ad (c.P fL).blk (c.P fL).off)) (n:=(c.P fL).n) (cp:=(c.P fL).cap) hl (by rw[hn];exact tV) c0 c1 (by omega);refine eW hok dg hd (s:= .v ao [.vw fL l.toNat hh.toNat]) ⟨by omega,by omega,λhf=>(by rw[hq]at hf;cases hf),λ_=> ?_⟩ (λm hm=>by simp[b8,bm]at hm;subst hm;rw[hg];simp) (exec ev hr);by_cases hle:(c.P fL).cap=l.toNat
     ·refine .inr ⟨hle.symm,(c.P fL).off,by omega, ?_⟩;rw[ba hle,show hh.toNat-l.toNat=0 by omega,show(c.P fL).cap-l.toNat=0 by omega]
     ·refine .inl ⟨by omega, ?_⟩;rw[a_ hle];simp only[fM,Addr.mT,hsz]
   cases ob with
   |row e' ex xs=>obtain⟨zK,h4⟩:=b9 h3;have:=aN zK;subst this;obtain⟨i1,i2,ti,i3,i4,i5⟩:=jR hok hg;exact main xs i1 i2 ⟨ti,i3,i4⟩ (λh=>(i5 h).1) h4
   |eU e' xs=>
    obtain⟨zK,h4⟩:=b9 h3;have:=aN zK;subst this;obtain⟨i1,i2,i3⟩:=lC hok hg;refine main xs i1 i2 i3 (λLh=> ?_) h4;obtain⟨j1,j2,_⟩:=hok.obj fL _ hg;rw[fa Lh]at j1;by_cases hz:0<xs.length
    ·obtain⟨t3,U,L⟩:=j1.FJ hz;rw[j2];exact L.cap
    ·omega
   |_=>simp at h3
  |vw fL Bo Bj=>
   obtain⟨ob,hg,h3⟩:=Rd.bind_some h3;have hg:=cW hg
   have main:(∃ti,E.ty el=ah ti/\(c.P fL).sz=ti.ks.length)->((c.P fL).nil=aj->(c.P fL).n=0)->((c.P fL).nil=ao->(c.P fL).n<=(c.P fL).cap)->
     ((lN lo 0).bind λl=>(lN hi ((Bj-Bo:aG):ay)).bind λh=>Rd.ret (gU l h ((Bj-Bo:aG):ay),AV.vw fL (Bo+l.toNat) (Bo+h.toNat))).val σ=ah (b,q)->fO P E σ a w c o e.ws:=by
    intro SW iq hcp h4
    obtain⟨l,hl,h4⟩:=Rd.bind_some h4
    obtain⟨hh,tV,h4⟩:=Rd.bind_some h4
    obtain⟨rfl,rfl⟩:=bF (aD h4)
    obtain rfl:=aD h
    have hc:gU l hh ((Bj-Bo:aG):ay)=true:=hc
    simp only[gU,aJ,aZ]at hc
    obtain⟨⟨c0,c1⟩,c2⟩:=hc
    obtain⟨ti,ht,hsz⟩:=SW
    obtain rfl:te=ti:=aD (HG.symm.trans ht)
    obtain⟨v1,v2,v3,v4⟩:=ev
    cases hq:(c.P fL).nil with
    |true=>
     have hz:=iq hq;have ex:=v3 hq;have hi0:Bj=0:=by omega
     have lo0:Bo=0:=by omega
     subst hi0;subst lo0;have h0:hh=0:=by simp at c2;omega
     have l0:l=0:=by omega
     subst h0;subst l0;have hr:=iz (P:=P) (te:=te) hE hu ht dg (A:=ai) (n:=0) (cp:=0) hl (by simpa using tV) (by omega) (by omega) (by simp);refine eW hok dg hd (s:= .v ao [.vw fL (0+(0:ay).toNat) (0+(0:ay).toNat)]) (v:= .slice ai 0 0) ⟨bR _,bC _,λ_=>rfl,λhf=>by rw[hq]at hf;cases hf⟩ (λm hm=>by simp[b8,bm]at hm;subst hm;rw[hg];simp) (exec ex (by simpa using hr))
    |false=>
     have hcp:=hcp hq;rcases v4 hq with ⟨u1,ex⟩|⟨u1,oo,u2,ex⟩
     ·have hr:=iz (P:=P) (te:=te) hE hu ht dg (A:=ah (ad (c.P fL).blk ((c.P fL).off+Bo*(c.P fL).sz))) (n:=Bj-Bo) (cp:=(c.P fL).cap-Bo) hl tV c0 c1 (by omega);refine eW hok dg hd (s:= .v ao [.vw fL (Bo+l.toNat) (Bo+hh.toNat)]) ⟨by omega,by omega,λhf=>(by rw[hq]at hf;cases hf),λ_=> ?_⟩ (λm hm=>by simp[b8,bm]at hm;subst hm;rw[hg];simp) (exec ex hr);by_cases hle:(c.P fL).cap-Bo=l.toNat
      ·refine .inr ⟨by omega,(c.P fL).off+Bo*(c.P fL).sz, ?_, ?_⟩
       ·have:=cL (c.P fL).sz (Nat.le_of_lt u1);omega
       ·rw[ba hle,show hh.toNat-l.toNat=0 by omega,show(c.P fL).cap-Bo-l.toNat=0 by omega]
      ·refine .inl ⟨by omega, ?_⟩;rw[a_ hle];simp only[fM,Addr.mT,hsz];rw[show Bo+hh.toNat-(Bo+l.toNat)=hh.toNat-l.toNat by omega,show(c.P fL).cap-(Bo+l.toNat)=(c.P fL).cap-Bo-l.toNat by omega,dE,rR]
     ·have hr:=iz (P:=P) (te:=te) hE hu ht dg (A:=ah (ad (c.P fL).blk oo)) (n:=0) (cp:=0) hl (by rw[show Bj-Bo=0 by omega]at tV;exact tV) c0 c1 (by omega);have h0:hh=0:=by omega
      have l0:l=0:=by omega
      subst h0;subst l0;refine eW hok dg hd (s:= .v ao [.vw fL (Bo+(0:ay).toNat) (Bo+(0:ay).toNat)]) (v:= .slice (ah (ad (c.P fL).blk oo)) 0 0) ⟨bR _,by simp;omega,λhf=>(by rw[hq]at hf;cases hf),λ_=> .inr ⟨by simpa using u1,oo,u2,rfl⟩⟩ (λm hm=>by simp[b8,bm]at hm;subst hm;rw[hg];simp) (exec ex (by simpa using hr))
   cases ob with
   |row e' ex xs=>obtain⟨zK,h4⟩:=b9 h3;have:=aN zK;subst this;obtain⟨i1,i2,ti,i3,i4,i5⟩:=jR hok hg;exact main ⟨ti,i3,i4⟩ (λhn=>by rw[i1,i2 hn];rfl) (λh=>(i5 h).1) h4
   |eU e' xs=>
    obtain⟨zK,h4⟩:=b9 h3;have:=aN zK;subst this;obtain⟨i1,i2,i3⟩:=lC hok hg;refine main i3 (λhn=>by rw[i1,i2 hn];rfl) (λLh=> ?_) h4;obtain⟨j1,j2,_⟩:=hok.obj fL _ hg;rw[fa Lh]at j1;by_cases hz:0<xs.length
    ·obtain⟨t3,U,L⟩:=j1.FJ hz;rw[j2];exact L.cap
    ·omega
   |_=>simp at h3
  |la fL i j=>
   obtain⟨ob,hg,h3⟩:=Rd.bind_some h3;have hg:=cW hg;cases ob with
   |row e' ex xs=>
    cases ex with
    |false=>simp at h3
    |true=>
     obtain⟨t1,Zl,h3⟩:=Rd.bind_some h3;have Zl:=dz Zl;split at h3
     ·rename_i e2 wW;obtain⟨zK,h4⟩:=b9 h3;have:=aN zK;subst this;obtain⟨⟨m8,hx⟩,hFv⟩:=ev;obtain⟨⟨tj,SS,ash,jI⟩,fN,_⟩:=hok.obj fL _ hg;obtain rfl:t1=tj:=aD (Zl.symm.trans SS);obtain⟨zs,y',hy,S1,uu,_,ti,ht,sR,hsz,zR,lM⟩:=pB (c:=c) fN jI m8 wW;rw[ea hy S1]at h4;obtain⟨l,hl,h4⟩:=Rd.bind_some h4;obtain⟨hh,tV,h4⟩:=Rd.bind_some h4;obtain⟨rfl,rfl⟩:=bF (aD h4);obtain rfl:=aD h;have hc:gU l hh zs.length=true:=hc;have tV:(lN hi (zs.length:ay)).val σ=ah hh:=tV;simp only[gU,aJ,aZ]at hc;obtain⟨⟨c0,c1⟩,c2⟩:=hc;have hn:=lM.n;cases hq:(c.G fL i j).nil with
      |true=>
       rw[nj hq]at hx;have hz:=(lM.nil hq).1;subst hz;have h0:hh=0:=by simp at c2;omega
       have l0:l=0:=by omega
       subst h0;subst l0;have hr:=iz (P:=P) (te:=ti) hE hu ht dg (A:=ai) (n:=0) (cp:=0) hl tV (by omega) (by omega) (by simp);refine eW hok dg hd (s:= .v ao [.iv fL i j 0 0]) (v:= .slice ai 0 0) ⟨⟨m8,bR _,bC _,λ_=>rfl,λhf=>by rw[hq]at hf;cases hf⟩,hFv⟩ (λm hm=>by simp[b8,bm]at hm;subst hm;rw[hg];simp) (exec hx (by simpa using hr))
      |false=>
       rw[fa hq]at hx;have hcp:(c.G fL i j).n<=(c.G fL i j).cap:=by obtain⟨_,_,q,_⟩:=lM.mem hq;exact q
       have hr:=iz (P:=P) (te:=ti) hE hu ht dg (A:=ah (ad (c.G fL i j).blk (c.G fL i j).off)) (n:=(c.G fL i j).n) (cp:=(c.G fL i j).cap) hl (by rw[hn];exact tV) c0 c1 (by omega);refine eW hok dg hd (s:= .v ao [.iv fL i j l.toNat hh.toNat]) ⟨⟨m8,by omega,by omega,λhf=>(by rw[hq]at hf;cases hf),λ_=> ?_⟩,hFv⟩ (λm hm=>by simp[b8,bm]at hm;subst hm;rw[hg];simp) (exec hx hr);by_cases hle:(c.G fL i j).cap=l.toNat
       ·refine .inr ⟨hle.symm,(c.G fL i j).off,by omega, ?_⟩;rw[ba hle,show hh.toNat-l.toNat=0 by omega,show(c.G fL i j).cap-l.toNat=0 by omega]
       ·refine .inl ⟨by omega, ?_⟩;rw[a_ hle];simp only[fM,Addr.mT,hsz]
     ·simp at h3
   |_=>simp at h3
  |nl=>
   obtain⟨l,hl,h4⟩:=Rd.bind_some h3;obtain⟨hh,tV,h4⟩:=Rd.bind_some h4;obtain⟨rfl,rfl⟩:=bF (aD h4);obtain rfl:=aD h;have hc:gU l hh 0=true:=hc;simp only[gU,aJ,aZ]at hc;obtain⟨⟨c0,c1⟩,c2⟩:=hc;have h0:hh=0:=by omega
   have l0:l=0:=by omega
   subst h0;subst l0;have hr:=iz (P:=P) (te:=te) hE hu HG dg (A:=ai) (n:=0) (cp:=0) hl tV (by omega) (by omega) (by simp);exact eW hok dg hd (s:= .v ao [.nl]) (v:= .slice ai 0 0) rfl (λn hn=>by simp[b8,bm]at hn) (exec ev (by simpa using hr))
  |_=>simp[Qh,Qg]at h3
 |_=>simp[Ie]at h3
end
end Go.FG

namespace Go.FG
section
variable {P:cC} {E:eL} {σ:St} {a:Act} {w:bw} {c:dZ} {o:eD} {nm:aG} {e:qQ}
theorem LV(hok:Ok E σ w c){x:AV}{v:a7}(hx:dN E w c x v){el:aG}{xs:Row}(h:(kY E x).val σ=ah (el,xs)):∃A cp,v= .slice A xs.length cp:=by
 cases x with
 |sh e' ys=>
  obtain⟨rfl,rfl⟩:=bF (aD h);have hx:cK E w c.K v (.l e' ys):=hx;cases hx with
  |nl=>exact⟨_,_,rfl⟩
  |l=>exact⟨_,_,rfl⟩
 |own n=>
  obtain⟨ob,hg,h⟩:=Rd.bind_some h;have hg:=cW hg;have hx:v=mb (c.P n):=hx;have main:∀ys:Row,(c.P n).n=ys.length->((c.P n).nil=aj->ys=[])->∃A cp,v= .slice A ys.length cp:=by
   intro ys h1 h2;cases hq:(c.P n).nil with
   |true=>rw[hx,nj hq,h2 hq];exact⟨_,_,rfl⟩
   |false=>rw[hx,fa hq,h1];exact⟨_,_,rfl⟩
  cases ob with
  |row e' ex ys=>obtain⟨rfl,rfl⟩:=bF (aD h);obtain⟨i1,i2,_⟩:=jR hok hg;exact main _ i1 i2
  |eU e' ys=>obtain⟨rfl,rfl⟩:=bF (aD h);obtain⟨i1,i2,_⟩:=lC hok hg;exact main _ i1 i2
  |_=>simp at h
 |vw n lo hi=>
  obtain⟨ob,hg,h⟩:=Rd.bind_some h;have hg:=cW hg;obtain⟨v1,v2,v3,v4⟩:=hx;have main:∀ys:Row,(c.P n).n=ys.length->((c.P n).nil=aj->ys=[])->((c.P n).nil=ao->(c.P n).n<=(c.P n).cap)->∃A cp,v= .slice A (dR ys lo hi).length cp:=by
   intro ys h1 h2 h3;rw[kV (by omega)];cases hq:(c.P n).nil with
   |true=>have:=h2 hq;subst this;rw[v3 hq,show hi-lo=0 by simp at h1;omega];exact⟨_,_,rfl⟩
   |false=>
    rcases v4 hq with ⟨_,h⟩|⟨u1,oo,_,h⟩
    ·rw[h];exact⟨_,_,rfl⟩
    ·have:=h3 hq;rw[h,show hi-lo=0 by omega];exact⟨_,_,rfl⟩
  cases ob with
  |row e' ex ys=>obtain⟨rfl,rfl⟩:=bF (aD h);obtain⟨i1,i2,ti,_,_,i5⟩:=jR hok hg;exact main _ i1 i2 (λh=>(i5 h).1)
  |eU e' ys=>
   obtain⟨rfl,rfl⟩:=bF (aD h);obtain⟨i1,i2,_⟩:=lC hok hg;refine main _ i1 i2 (λLh=> ?_);obtain⟨j1,j2,_⟩:=hok.obj n _ hg;rw[fa Lh]at j1;by_cases hz:0<ys.length
   ·obtain⟨t3,U,L⟩:=j1.FJ hz;rw[j2];exact L.cap
   ·omega
  |_=>simp at h
 |la n i j=>
  obtain⟨ob,hg,h⟩:=Rd.bind_some h;have hg:=cW hg;cases ob with
  |row e' ex ys=>
   cases ex with
   |false=>simp at h
   |true=>
   obtain⟨te,ht,h⟩:=Rd.bind_some h;have ht:=dz ht;split at h
   ·rename_i e2 wW;obtain⟨rfl,rfl⟩:=bF (aD h);obtain⟨⟨m8,hx⟩,_⟩:=hx;obtain⟨⟨tj,SS,hsz,jI⟩,fN,_⟩:=hok.obj n _ hg;obtain rfl:te=tj:=aD (ht.symm.trans SS);obtain⟨zs,y',hy,S1,uu,_,tk,DA,sR,HF,zR,lM⟩:=pB (c:=c) fN jI m8 wW;rw[ea hy S1];cases hq:(c.G n i j).nil with
    |true=>rw[hx,nj hq,show kU (.l e2 zs)=zs from rfl,(lM.nil hq).1];exact⟨_,_,rfl⟩
    |false=>rw[hx,fa hq,lM.n];exact⟨_,_,rfl⟩
   ·simp at h
  |_=>simp at h
 |_=>simp[kY]at h
theorem lz{cl:Call}{b:Builtin}(ho:o.op= .call cl)(hb:cl.callee= .builtin b):
  ∃cs,(execOp a.eval o).run P w=(builtin b cl.argTypes o.type cs (cl.args.map a.eval)).run P w:=by unfold execOp;rw[ho];simp only[resolve,hb,bV,cy,bk,invoke];exact⟨_,rfl⟩
theorem mi{α:Type}{x:cX α}{y:α}(h:x.toList=[y]):x= #[y]:=by apply qK;simpa using h
theorem Az{α:Type}{x:cX α}{y z:α}(h:x.toList=[y,z]):x= #[y,z]:=by apply qK;simpa using h
theorem ZT(hE:dP P E)(hok:Ok E σ w c)(dg:eC E σ a w c)(hd:∀d,o.dst=ah d->d<a.tmps.size){cl:Call}(ho:o.op= .call cl)(hb:cl.callee= .builtin .len)(h:(kH E nm o).val σ=ah e):fO P E σ a w c o e.ws:=by
 simp only[kH,ho,hb]at h;split at h
 ·rename_i x t hx ht;obtain⟨k,hk,h⟩:=Rd.bind_some h;obtain⟨v,h1,h⟩:=Rd.bind_some h;obtain⟨n,h2,h⟩:=Rd.bind_some h;obtain⟨ev,kv⟩:=h_ dg h1;have hx:=mi hx;have ht:=mi ht;have exec:∀r,(tT #[t] o.type #[a.eval x]).run P w= .ok r w->(execOp a.eval o).run P w= .ok (.value r) w:=by intro r hr;obtain⟨cs,AL⟩:=lz (P:=P) (a:=a) (w:=w) ho hb;rw[AL,hx,ht];simp only[builtin,A3,eF,zb];exact gZ hr
  have fin:∀m:aG,n=m->(tT #[t] o.type #[a.eval x]).run P w= .ok (goInt m) w->fO P E σ a w c o e.ws:=by intro m hm hr;subst hm;exact eZ hok dg hd h (v:=goInt m) rfl (λn hn=>by simp[b8,bm]at hn) (exec _ hr)
  cases k with
  |s=>cases v with
   |s s=>obtain rfl:=aD h2;have ev:a.eval x= .string s:=ev.1;exact fin s.size rfl (by rw[ev];simp[tT,run_underlying (jQ hE hk)])
   |_=>simp[ZB]at h2
  |l el=>
   have hu:=jD hE hk;have sl:∀A (m:aG) cp,a.eval x= .slice A m cp->n=m->fO P E σ a w c o e.ws:=by intro A m cp hv hn;exact fin m hn (by rw[hv];simp[tT,run_underlying hu])
   have gen:∀(el':aG) (xs:Row),(kY E v).val σ=ah (el',xs)->n=xs.length->fO P E σ a w c o e.ws:=by intro el' xs hr hn;obtain⟨A,cp,hv⟩:=LV hok ev hr;exact sl _ _ _ hv hn
   cases v with
   |nl=>obtain rfl:=aD h2;exact sl ai 0 0 ev rfl
   |vw m lo hi=>
    obtain⟨ob,hg,h2⟩:=Rd.bind_some h2;have hg:=cW hg;have r1:∃(e1:aG) (ys:Row),(kY E (.vw m lo hi)).val σ=ah (e1,dR ys lo hi)/\(c.P m).n=ys.length/\n=((hi-lo:aG):ay):=by
     cases ob with
     |row e1 ex ys=>exact⟨e1,ys,by simp[kY,iy,hg],(jR hok hg).1,(aD h2).symm⟩
     |eU e1 ys=>exact⟨e1,ys,by simp[kY,iy,hg],(lC hok hg).1,(aD h2).symm⟩
     |_=>simp at h2
    obtain⟨e1,ys,h5,h6,h7⟩:=r1;refine gen e1 _ h5 ?_;rw[kV (by have:=ev.2.1;omega)];exact h7
   |_=>obtain⟨⟨el',xs⟩,hr,h3⟩:=Rd.bind_some h2;obtain rfl:=aD h3;exact gen el' xs hr rfl
  |_=>simp[ZB]at h2
 ·simp at h
end
end Go.FG

namespace Go.FG
section
variable {P:cC} {E:eL} {σ:St} {a:Act} {w:bw} {c:dZ} {o:eD} {nm:aG} {e:qQ}
theorem wz{α:Type}{x:aA α}{σ:St}{r:α}(h:(Pz x).val σ=ah r):x=ah r:=by
 cases x with
 |none=>simp[Pz]at h
 |some y=>exact h
theorem ZS(hE:dP P E)(hok:Ok E σ w c)(dg:eC E σ a w c)(hd:∀d,o.dst=ah d->d<a.tmps.size){cl:Call}(ho:o.op= .call cl)(hb:cl.callee= .builtin .cap)(h:(kH E nm o).val σ=ah e):fO P E σ a w c o e.ws:=by
 simp only[kH,ho,hb]at h;split at h
 ·rename_i x t hx ht;obtain⟨k,hk,h⟩:=Rd.bind_some h;have hx:=mi hx;have ht:=mi ht;cases k with
  |l el=>
   obtain⟨v,h1,h⟩:=Rd.bind_some h;obtain⟨ev,kv⟩:=h_ dg h1;have hu:=jD hE hk;cases v with
   |nl=>refine eZ hok dg hd h (v:=goInt 0) rfl (λn hn=>by simp[b8,bm]at hn) ?_;obtain⟨cs,AL⟩:=lz (P:=P) (a:=a) (w:=w) ho hb;rw[AL,hx,ht];simp only[builtin,A3,eF,zb];refine gZ ?_;rw[show a.eval x= .slice ai 0 0 from ev];simp[Builtin.cap_,run_underlying hu]
   |_=>simp at h
  |_=>simp at h
 ·simp at h
theorem HO(dg:eC E σ a w c)(mx:aU):∀(r:ax cY) (k:lU) (n:ay) (v:AV),(uQ mx r k n).val σ=ah v->
  ∃m,v= .i k m/\((r.map a.eval).foldlM (if mx then BC else BD) (.int k n)).run P w= .ok (.int k m) w:=by
 intro r;induction r with
 |nil=>intro k n v h;obtain rfl:=aD h;exact⟨n,rfl,rfl⟩
 |cons x r ih=>
  intro k n v h;obtain⟨⟨k2,m⟩,h1,h2⟩:=Rd.bind_some h;have hx:=oD dg h1;obtain⟨q,hq,hr⟩:=ih k (fS mx n m) v h2;refine⟨q,hq, ?_⟩
  simp only[eF,List.foldlM_cons,bV,hx];cases mx with
  |true=>
   have:(BC (.int k n) (.int k2 m)).run P w= .ok (.int k (fS aj n m)) w:=by simp[BC,fS]
   simp only[if_true,this,bk]at hr⊢;exact hr
  |false=>
   have:(BD (.int k n) (.int k2 m)).run P w= .ok (.int k (fS ao n m)) w:=by simp[BD,fS]
   simp only[cN,if_false,this,bk]at hr⊢;exact hr
theorem Cb(mx:aU)(hok:Ok E σ w c)(dg:eC E σ a w c)(hd:∀d,o.dst=ah d->d<a.tmps.size){cl:Call}(ho:o.op= .call cl)(hb:cl.callee= .builtin (if mx then .max else .min))(h:(kH E nm o).val σ=ah e):fO P E σ a w c o e.ws:=by
 have main:∀x r,cl.args.toList=x::r->((z_ x).bind λ(k,n)=>(uQ mx r k n).bind λv=>wI o v).val σ=ah e->fO P E σ a w c o e.ws:=by
  intro x r hx h;obtain⟨⟨k,n⟩,h1,h⟩:=Rd.bind_some h;obtain⟨v,h2,h⟩:=Rd.bind_some h;have ex:=oD dg h1;obtain⟨m,rfl,hr⟩:=HO (P:=P) dg mx r k n v h2;refine eZ hok dg hd h (v:= .int k m) rfl (λn hn=>by simp[b8,bm]at hn) ?_;obtain⟨cs,AL⟩:=lz (P:=P) (a:=a) (w:=w) ho hb;have qw:cl.args.map a.eval=((x::r).map a.eval).toArray:=by rw[<-hx];apply qK;simp
  rw[AL,qw];cases mx with
  |true=>simp only[if_true,builtin];refine gZ ?_;simp only[Builtin.max_,eF,ex];exact hr
  |false=>simp only[cN,if_false,builtin];refine gZ ?_;simp only[Builtin.min_,eF,ex];exact hr
 cases mx with
 |true=>
  simp only[kH,ho,hb,if_true]at h;split at h
  ·rename_i x r hx;exact main x r hx h
  ·simp at h
 |false=>
  simp only[kH,ho,hb,cN,if_false]at h;split at h
  ·rename_i x r hx;exact main x r hx h
  ·simp at h
theorem P8{op:BinOp}{t:aG}{k:lU}{m n:ay}{b:aU}{v:AV}(hs:Lq op=ao)(h:Yv op k m n=ah (b,v))(hb:b=aj):
  ∃u,dN E w c v u/\bm v=[]/\(binOp op t (.int k m) (.int k n)).run P w= .ok u w:=by
 subst hb;cases op<;>simp only[Yv,iF,ir,true_and,reduceCtorEq]at h<;>first|(simp[Lq]at hs;done)|skip
 case quo=>
  obtain⟨h1,rfl⟩:=h
  have hn:¬n=0:=by simpa using h1
  exact⟨_,rfl,rfl,by simp[binOp,Op.intDiv,hn]⟩
 case rem=>
  obtain⟨h1,rfl⟩:=h
  have hn:¬n=0:=by simpa using h1
  exact⟨_,rfl,rfl,by simp[binOp,Op.intDiv,hn]⟩
 all_goals (subst h;exact⟨_,rfl,rfl,by simp[binOp,Op.intArith,Op.intBits,Op.intCmp]⟩)
theorem P9{op:BinOp}{t:aG}{m n:aq}{b:aU}{v:AV}(hs:Lq op=ao)(h:Yx op m n=ah (b,v))(hb:b=aj):
  ∃u,dN E w c v u/\bm v=[]/\(binOp op t (.string m) (.string n)).run P w= .ok u w:=by
 subst hb;cases op<;>simp only[Yx,iF,ir,true_and,reduceCtorEq]at h<;>first|(simp[Lq]at hs;done)|skip
 case add=>
  obtain⟨h1,rfl⟩:=h
  have h1:=ca h1
  refine⟨_,⟨rfl,by unfold GF;rw[dh];omega⟩,rfl, ?_⟩
  have:¬(((m.size+n.size:aG):ay)>ar.max):=by
   have:ar.max=9223372036854775807:=by decide
   omega
  simp only[binOp,Op.stringOp,a_ this,cy]
 all_goals (subst h;exact⟨_,rfl,rfl,by simp[binOp,Op.stringOp]⟩)
theorem u5{op:BinOp}{t:aG}{x y:cY}{u v:a7}(hu:∀xs,u≠ .agg xs)(hn:u≠ .nilIface):(eqGuard op t x y u v).run P w= .ok () w:=by unfold eqGuard;cases op<;>cases u<;>first|rfl|(exact b_ rfl (hu _))|(exact b_ rfl hn)|(cases v<;>rfl)
theorem u0{P:cC}(w:bw){t:aG}(h:P.underlying t=ah .bool)(m n:aU):(binOp .eql t (.bool m) (.bool n)).run P w= .ok (.bool (m==n)) w/\(binOp .neq t (.bool m) (.bool n)).run P w= .ok (.bool !(m==n)) w:=by
 have h1:(Op.equal t (.bool m) (.bool n)).run P w= .ok (m==n) w:=by show(Op.equalIn (9999+1) t (.bool m) (.bool n)).run P w=_;exact run_equalIn_bool w 9999 t m n h
 simp only[binOp,bV,h1,bk,cy];exact⟨trivial,trivial⟩
theorem Ai{xs:ax AV}{ks:ax Ck}(hk:xs.map DE=ks)(hp:plain ks=aj){vals:cX a7}(hs:vals.size=xs.length)(hv:∀(j:aG) (a:AV),xs[j]? =ah a->∃u:a7,vals[j]? =ah u/\dN E w c a u):vals=(xs.map kB).toArray:=by
 apply qK;apply Q7;intro j;simp only[cz,bg];cases hx:xs[j]? with
 |none=>have:=List.getElem?_eq_none_iff.1 hx;simp;omega
 |some a=>
  obtain⟨u,hu,ha⟩:=hv j a hx;rw[hu];have hm:DE a∈ks:=by rw[<-hk];exact cD.2 ⟨a,aM hx,rfl⟩
  have mE:=bf.1 hp _ hm;cases a<;>simp[DE]at mE<;>first|(have h1:u=_:=ha;rw[h1];rfl)|(have h1:u=_:=ha.1;rw[h1];rfl)
theorem R6(hE:dP P E){op:BinOp}{t:aG}{x y:cY}{sx sy:SV}{ux uy:a7}(ex:ic E w c sx ux)(ey:ic E w c sy uy){b:aU}{v:AV}(h3:(Yw E t op sx sy).val σ=ah (b,v))(hc:b=aj):
  ∃u,dN E w c v u/\bm v=[]/\(do eqGuard op t x y ux uy;binOp op t ux uy).run P w= .ok u w:=by
 have fin:∀u,dN E w c v u->bm v=[]->(do eqGuard op t x y ux uy;binOp op t ux uy).run P w= .ok u w->∃u,dN E w c v u/\bm v=[]/\(do eqGuard op t x y ux uy;binOp op t ux uy).run P w= .ok u w:=
  λu hu hn hr=>⟨u,hu,hn,hr⟩
 have pl:∀u1 u2 r,ux=u1->uy=u2->(∀xs,u1≠ .agg xs)->u1≠ .nilIface->(binOp op t u1 u2).run P w= .ok r w->(do eqGuard op t x y ux uy;binOp op t ux uy).run P w= .ok r w:=by intro u1 u2 r h1 h2 h3 h4 h5;rw[h1,h2];simp only[bV,u5 (P:=P) (w:=w) (op:=op) (t:=t) (x:=x) (y:=y) (v:=u2) h3 h4,bk,h5]
 unfold Yw at h3;split at h3
 ·rename_i p q;have ex:dN E w c p ux:=ex;have ey:dN E w c q uy:=ey;cases jI:Lq op with
  |true=>
   rw[jI]at h3;replace h3:=wz h3;cases p<;>cases q<;>first|(simp[shV]at h3;done)|skip
   cases op<;>simp only[shV,iF,ir,reduceCtorEq]at h3<;>(obtain⟨rfl,rfl⟩:=h3)
   ·refine fin _ rfl rfl (pl _ _ _ ex ey (by simp) (by simp) ?_);have:¬(_:ay)<0:=Int.not_lt.2 (ca hc);simp[binOp,Op.shift,this]
   ·refine fin _ rfl rfl (pl _ _ _ ex ey (by simp) (by simp) ?_);have:¬(_:ay)<0:=Int.not_lt.2 (ca hc);simp[binOp,Op.shift,this]
  |false=>
   rw[jI]at h3;obtain⟨k,hk,h3⟩:=Rd.bind_some h3;replace h3:=wz h3;cases p with
   |i k1 m=>
    cases q with
    |i k2 n=>
     have h9:=h3;simp only[G_]at h9;split at h9
     ·rename_i SJ;subst SJ;obtain⟨u,hu,hn,hr⟩:=P8 (P:=P) (t:=t) (E:=E) (c:=c) (w:=w) jI h9 hc;exact fin u hu hn (pl _ _ _ ex ey (by simp) (by simp) hr)
     ·cases h9
    |_=>simp[G_]at h3
   |s m=>
    cases q with
    |s n=>obtain⟨u,hu,hn,hr⟩:=P9 (P:=P) (t:=t) (E:=E) (c:=c) (w:=w) jI h3 hc;exact fin u hu hn (pl _ _ _ ex.1 ey.1 (by simp) (by simp) hr)
    |_=>simp[G_]at h3
   |b m=>
    cases q with
    |b n=>
     have Vo:k= .b->P.underlying t=ah .bool:=by rintro rfl;obtain⟨ti,q1,q2,q3⟩:=qc hk;obtain⟨d,Vr,_,hn⟩:=hE.desc t ti q1;rcases hn q2 with ⟨k,h,_⟩|⟨h,rfl⟩|⟨h,_⟩|⟨e',h,_⟩|⟨h,_⟩<;>rw[q3]at h<;>simp_all
     cases op<;>cases k<;>simp only[G_,iF,ir,reduceCtorEq]at h3<;>(obtain⟨rfl,rfl⟩:=h3)
     ·refine fin _ rfl rfl (pl _ _ _ ex ey (by simp) (by simp) ?_);exact(u0 (P:=P) w (Vo rfl) _ _).1
     ·refine fin _ rfl rfl (pl _ _ _ ex ey (by simp) (by simp) ?_);exact(u0 (P:=P) w (Vo rfl) _ _).2
    |_=>simp[G_]at h3
   |_=>simp[G_]at h3
 ·rename_i xs ys;obtain⟨ti,ht,h3⟩:=Rd.bind_some h3;have ht:=dz ht;obtain⟨h4,h3⟩:=b9 h3;simp only[aJ]at h4;obtain⟨⟨⟨⟨h5,h6⟩,h7⟩,h8⟩,h9⟩:=h4;have h7:=p9 h7;have h8:=p9 h8;replace h3:=wz h3;obtain⟨X,hX,sX,vX⟩:=ex;obtain⟨Y,hY,sY,vY⟩:=ey;have eX:=Ai h7 h9 sX vX;have eY:=Ai h8 h9 sY vY;cases hq:Sq xs ys with
  |none=>rw[hq]at h3;cases h3
  |some r=>
   rw[hq]at h3;obtain⟨r1,r2⟩:=hE.eq t ti h6 ht w x y xs ys r hq h7 h8;cases op<;>first|(simp[isEq]at h5;done)|skip
   ·obtain⟨_,rfl⟩:=bF (aD h3);exact fin _ rfl rfl (by rw[hX,hY,eX,eY];exact r1)
   ·obtain⟨_,rfl⟩:=bF (aD h3);exact fin _ rfl rfl (by rw[hX,hY,eX,eY];exact r2)
 ·simp at h3
theorem Pp(hE:dP P E)(hok:Ok E σ w c)(dg:eC E σ a w c)(hd:∀d,o.dst=ah d->d<a.tmps.size){op:BinOp}{t ty:aG}{x y:cY}(ho:o.op= .binOp op t x y ty)(h:(kH E nm o).val σ=ah e)(hc:e.cond=aj):fO P E σ a w c o e.ws:=by simp only[kH,ho]at h;obtain⟨sx,h1,h⟩:=Rd.bind_some h;obtain⟨sy,h2,h⟩:=Rd.bind_some h;obtain⟨⟨b,v⟩,h3,h⟩:=Rd.bind_some h;obtain rfl:=aD h;obtain⟨u,hu,hn,hr⟩:=R6 (P:=P) (x:=x) (y:=y) hE (kR dg h1).1 (kR dg h2).1 h3 hc;refine eW hok dg hd (s:= .v ao [v]) hu (λn jC=>by simp[b8,hn]at jC) ?_;unfold execOp;rw[ho];exact gZ hr
end
end Go.FG

namespace Go.FG
theorem Io{p:Pl}(hn:p.nil=ao->p.n<=p.cap)(hz:p.nil=aj->p.n=0):tn p 0 p.n (mb p):=by
 refine⟨bC _,bR _,λh=>nj h,λh=> ?_⟩
 rw[fa h];by_cases hc:p.cap=0
 ·refine .inr ⟨hc.symm,p.off,Yd _ _, ?_⟩;have:=hn h;rw[hc,show p.n=0 by omega]
 ·refine .inl ⟨by omega, ?_⟩;simp
theorem pF(xs:Row):dR xs 0 xs.length=xs:=by unfold dR;simp
def mZ(w:bw)(v:a7)(xs:Row)(sz:aG)(R:aG->aG->a7->CV->Prop):Prop:=
 ∃A cp,v= .slice A xs.length cp/\(xs≠[]->∃b o,A=ah (ad b o)/\∀(i:aG) (y:ax CV) (j:aG) (x:CV),xs[i]? =ah y->y[j]? =ah x->∃u:a7,w.cell? (ad b (o+i*sz+j))=ah u/\R i j u x)
theorem mZ.imp{w:bw}{v:a7}{xs:Row}{sz:aG}{R R':aG->aG->a7->CV->Prop}(h:mZ w v xs sz R)(hR:∀(i:aG) (y:ax CV) (j:aG) (x:CV) (u:a7),xs[i]? =ah y->y[j]? =ah x->R i j u x->R' i j u x):mZ w v xs sz R':=by
 obtain⟨A,cp,h1,h2⟩:=h;refine⟨A,cp,h1,λg_=> ?_⟩
 obtain⟨b,o,h3,h4⟩:=h2 g_;refine⟨b,o,h3,λi y j x hi hj=> ?_⟩
 obtain⟨u,hu,hr⟩:=h4 i y j x hi hj;exact⟨u,hu,hR i y j x u hi hj hr⟩
theorem Ii{w:bw}{p:Pl}{xs:Row}{R:aG->aG->a7->CV->Prop}{lo hi:aG}{v:a7}(h:ij w p xs R)(hv:tn p lo hi v):mZ w v (dR xs lo hi) p.sz (λi j u x=>R (lo+i) j u x):=by
 obtain⟨v1,v2,v3,v4⟩:=hv;have hl:=kV (xs:=xs) (lo:=lo) (hi:=hi) (by rw[<-h.n];exact v2);cases hq:p.nil with
 |true=>
  have hx:=(h.nil hq).1;have h0:=h.n;rw[hx]at h0;refine⟨ai,0, ?_,λg_=>b_ (by rw[hx];unfold dR;simp) g_⟩
  rw[v3 hq,hl];have:p.n=0:=h0;congr 1;omega
 |false=>
  obtain⟨vals,hb,Vy,hcm,mD,hc⟩:=h.mem hq;rcases v4 hq with ⟨u1,rfl⟩|⟨u1,oo,u2,rfl⟩
  ·refine⟨_,_,by rw[hl],λg_=>⟨_,_,rfl,λi y j x j_ hj=> ?_⟩⟩
   rw[rL]at j_;split at j_
   ·obtain⟨u,hu,hr⟩:=hc (lo+i) y j x j_ hj;refine⟨u, ?_,hr⟩
    rw[hb.cell,<-hu];congr 1;rw[dE];omega
   ·cases j_
  ·have h0:hi-lo=0:=by omega
   refine⟨_,_,by rw[hl,h0],λg_=>b_ (fj (hl.trans h0)) g_⟩
theorem zQ{E:eL}{w:bw}{K:aG->Prop}{p:Pl}{e:aG}{te:TI}{xs:Row}(he:E.ty e=ah te)(h:cK E w K (mb p) (.l e xs))(hn:p.n=xs.length)(hs:p.sz=te.ks.length){lo hi:aG}{v:a7}(hv:tn p lo hi v):cK E w K v (.l e (dR xs lo hi)):=by
 obtain⟨v1,v2,v3,v4⟩:=hv;have hl:=kV (xs:=xs) (lo:=lo) (hi:=hi) (by rw[<-hn];exact v2);have nil:hi-lo=0->dR xs lo hi=[]:=λh0=>fj (hl.trans h0);cases hq:p.nil with
 |true=>
  rw[nj hq]at h;have hx:xs=[]:=by cases h;rfl
  subst hx;have hn:p.n=0:=hn;rw[v3 hq,nil (by omega)];exact .nl _ _ _
 |false=>
  rw[fa hq]at h;rcases v4 hq with ⟨u1,rfl⟩|⟨u1,oo,u2,rfl⟩
  ·have:=(B3 (lo:=lo) (hi:=hi) he h v1 (by rw[<-hn];exact v2)).2;rw[a_ (by omega)]at this;simpa only[fM,Addr.mT,hs]using this
  ·by_cases hz:hi-lo=0
   ·rw[nil hz];exact .nl _ _ _
   ·have h1:0<xs.length:=by omega
    obtain⟨t3,U,L⟩:=h.FJ h1;have:=L.cap;omega
theorem Cq{E:eL}{w:bw}{K:aG->Prop}{v:a7}{e:aG}{te:TI}{xs:Row}(he:E.ty e=ah te)(h:cK E w K v (.l e xs)):mZ w v xs te.ks.length (λ_ _ u x=>cK E w K u x)/\∀y∈xs,y.map CV.kd=te.ks:=by
 cases h with
 |nl=>exact⟨⟨_,_,rfl,λh=>b_ rfl h⟩,λy hy=>by cases hy⟩
 |l _ _ b o cp ti U ht hc hm hK hs hcell g6=>obtain rfl:te=ti:=aD (he.symm.trans ht);exact⟨⟨_,_,rfl,λ_=>⟨b,o,rfl,λi y j x hi hj=>⟨U i j,hcell i j y x hi hj,g6 i j y x hi hj⟩⟩⟩,hs⟩
theorem p_{E:eL}{w:bw}{K:aG->Prop}{u:a7}{x:CV}(h:cK E w K u x)(hl:sI x=ao):Sc u x:=by
 cases h with
 |i=>exact⟨rfl,trivial⟩
 |b=>exact⟨rfl,trivial⟩
 |s _ h=>exact⟨rfl,h⟩
 |nl=>simp[sI]at hl
 |l=>simp[sI]at hl
theorem iX{E:eL}{w:bw}{K:aG->Prop}{u:a7}{x:CV}(hl:sI x=ao)(h:Sc u x):cK E w K u x:=by
 obtain⟨h1,h2⟩:=h;subst h1;cases x with
 |i k n=>exact .i k n
 |b x=>exact .b x
 |s x=>exact .s x h2
 |l=>simp[sI]at hl
theorem vk{E:eL}{w:bw}{G:aG->aG->Pl}{i j:aG}{u:a7}{x:CV}(h:XC E w G i j u x)(hl:sI x=ao):Sc u x:=by
 cases x with
 |l=>simp[sI]at hl
 |i=>exact h
 |b=>exact h
 |s=>exact h
theorem u9{E:eL}{w:bw}{G:aG->aG->Pl}{i j:aG}{u:a7}{x:CV}(hl:sI x=ao)(h:Sc u x):XC E w G i j u x:=by
 cases x with
 |l=>simp[sI]at hl
 |i=>exact h
 |b=>exact h
 |s=>exact h
theorem mZ.list{w:bw}{v:a7}{xs:Row}{sz:aG}{R:aG->aG->a7->CV->Prop}(h:mZ w v xs sz R)(hs:∀y∈xs,y.length=sz):
  ∃(A:aA Addr) (cp:aG) (news:ax a7),v= .slice A xs.length cp/\news.length=xs.length*sz/\(xs=[]\/∃b o,A=ah (ad b o)/\∀j u,news[j]? =ah u->w.cell? (ad b (o+j))=ah u)/\
   ∀(i:aG) (y:ax CV) (j:aG) (x:CV),xs[i]? =ah y->y[j]? =ah x->∃u:a7,news[i*sz+j]? =ah u/\R i j u x:=by
 obtain⟨A,cp,rfl,h2⟩:=h;by_cases hx:xs=[]
 ·subst hx;exact⟨A,cp,[],rfl,by simp, .inl rfl,λi y j x hi hj=>by simp at hi⟩
 ·obtain⟨b,o,h3,h4⟩:=h2 hx;have ex:∀q,q<xs.length*sz->∃u,w.cell? (ad b (o+q))=ah u:=by
   intro q hq;have hsz:0<sz:=by rcases xK sz with h|h;(subst h;simp at hq);exact h
   have hi:q/sz<xs.length:=by rw[Mg hsz];exact hq
   have hj:q%sz<xs[q/sz].length:=by rw[hs _ (bH hi)];exact IQ _ hsz
   obtain⟨u,hu,_⟩:=h4 (q/sz) xs[q/sz] (q%sz) (xs[q/sz][q%sz]) (by simp[hi]) (by simp[hj]);refine⟨u, ?_⟩
   rw[<-hu];congr 2;have:=Nat.div_add_mod q sz;rw[KI]at this;omega
  refine⟨A,cp,(ej (xs.length*sz)).map (λq=>(w.cell? (ad b (o+q))).getD undef),rfl,by simp, .inr ⟨b,o,h3,λj u hj=> ?_⟩,λi y j x hi hj=> ?_⟩
  ·rw[bg]at hj;by_cases jB:j<xs.length*sz
   ·obtain⟨u',qx⟩:=ex j jB;simp only[jB,s9,fM,qx,vJ,iF]at hj;rw[qx,hj]
   ·rw[jK (l:=ej (xs.length*sz)) (by simpa using jB)]at hj;cases hj
  ·obtain⟨u,hu,hr⟩:=h4 i y j x hi hj;refine⟨u, ?_,hr⟩
   have hil:=(aP.1 hi).1;have jB:=(aP.1 hj).1;rw[hs y (aM hi)]at jB;have jj:i*sz+j<xs.length*sz:=by have:(i+1)*sz<=xs.length*sz:=cL _ hil;rw[dE]at this;omega
   rw[bg,s9 jj,fM];rw[show o+(i*sz+j)=o+i*sz+j by omega,hu];rfl
section
variable {P:cC} {E:eL} {σ:St} {a:Act} {w:bw} {c:dZ} {o:eD} {nm:aG} {e:qQ}
theorem uZ(hok:Ok E σ w c){nm e:aG}{ex:aU}{xs:Row}(h:σ (cG nm)= .o (.row e ex xs)){lo hi:aG}{v:a7}(hv:tn (c.P nm) lo hi v):
  ∃te,E.ty e=ah te/\(∀y∈dR xs lo hi,y.map CV.kd=te.ks)/\mZ w v (dR xs lo hi) te.ks.length (λi j u x=>if ex=aj then XC E w (c.G nm) (lo+i) j u x else cK E w c.K u x):=by obtain⟨⟨ti,h1,h2,h3⟩,h4,_⟩:=hok.obj nm _ h;have:=Ii h4 hv;rw[h2]at this;exact⟨ti,h1,λy hy=>h3 y (zW hy),this⟩
theorem tM(hok:Ok E σ w c){nm e:aG}{ex:aU}{xs:Row}(h:σ (cG nm)= .o (.row e ex xs)):tn (c.P nm) 0 xs.length (mb (c.P nm)):=by obtain⟨h1,h2,ti,h3,h4,h5⟩:=jR hok h;rw[<-h1];exact Io (λhn=>(h5 hn).1) (λhn=>by rw[h1,h2 hn];rfl)
theorem Fj(hok:Ok E σ w c){nm e:aG}{xs:Row}(h:σ (cG nm)= .o (.eU e xs)):tn (c.P nm) 0 xs.length (mb (c.P nm)):=by
 obtain⟨h1,h2,ti,h3,h4⟩:=lC hok h;rw[<-h1];refine Io (λhn=> ?_) (λhn=>by rw[h1,h2 hn];rfl);obtain⟨j1,j2,_⟩:=hok.obj nm _ h;rw[fa hn]at j1;by_cases hz:0<xs.length
 ·obtain⟨t3,U,L⟩:=j1.FJ hz;rw[j2];exact L.cap
 ·omega
theorem nV(hok:Ok E σ w c){nm e:aG}{xs:Row}(h:σ (cG nm)= .o (.eU e xs)){lo hi:aG}{v:a7}(hv:tn (c.P nm) lo hi v):cK E w c.K v (.l e (dR xs lo hi)):=by obtain⟨h1,h2,ti,h3,h4⟩:=hok.obj nm _ h;exact zQ h3 h1 h2 h4 hv
theorem uM(hok:Ok E σ w c){nm e e2 i j:aG}{xs:Row}{te:TI}(h:σ (cG nm)= .o (.row e aj xs))(ht:E.ty e=ah te)(hk:te.ks[j]? =ah (.l e2))(hi:i<(c.P nm).n):
  ∃ys y t2,xs[i]? =ah y/\y[j]? =ah (.l e2 ys)/\E.ty e2=ah t2/\plain t2.ks=aj/\(c.G nm i j).sz=t2.ks.length/\(∀y∈ys,y.map CV.kd=t2.ks)/\ij w (c.G nm i j) ys (λ_ _ u x=>Sc u x)/\tn (c.G nm i j) 0 ys.length (mb (c.G nm i j)):=by
 obtain⟨⟨tj,SS,hsz,jI⟩,fN,_⟩:=hok.obj nm _ h;obtain rfl:te=tj:=aD (ht.symm.trans SS);obtain⟨zs,y,hy,S1,uu,_,tk,DA,sR,HF,zR,lM⟩:=pB (c:=c) fN jI hi hk;refine⟨zs,y,tk,hy,S1,DA,sR,HF,zR,lM, ?_⟩
 have:=Io (p:=c.G nm i j) (λhn=>by obtain⟨_,_,q,_⟩:=lM.mem hn;exact q) (λhn=>by rw[lM.n,(lM.nil hn).1];rfl);rwa[lM.n]at this
theorem Li{E:eL}{w:bw}{K:aG->Prop}{v:a7}{e:aG}{xs:Row}(h:cK E w K v (.l e xs)):xs.length<=maxLen:=by
 cases h with
 |nl=>exact bC _
 |l _ _ b o cp ti U ht hc hm=>exact cm hc hm
theorem se{w:bw}{p:Pl}{xs:Row}{R:aG->aG->a7->CV->Prop}(h:ij w p xs R):xs.length<=maxLen:=by
 cases hn:p.nil with
 |true=>rw[(h.nil hn).1];exact bC _
 |false=>obtain⟨vals,_,h2,h3,_⟩:=h.mem hn;rw[<-h.n];exact cm h2 h3
theorem Gp(xs:Row)(lo hi:aG):(dR xs lo hi).length<=xs.length:=by unfold dR;simp;omega
theorem w_(hok:Ok E σ w c){x:AV}{v:a7}(hx:dN E w c x v){el:aG}{xs:Row}{te:TI}(h:(kY E x).val σ=ah (el,xs))(ht:E.ty el=ah te)(hp:plain te.ks=aj):
  mZ w v xs te.ks.length (λ_ _ u x=>Sc u x)/\(∀y∈xs,y.map CV.kd=te.ks)/\xs.length<=maxLen:=by
 have ofH:∀{xs:Row} {v:a7},cK E w c.K v (.l el xs)->mZ w v xs te.ks.length (λ_ _ u x=>Sc u x)/\(∀y∈xs,y.map CV.kd=te.ks)/\xs.length<=maxLen:=by intro xs v hh;obtain⟨h1,h2⟩:=Cq ht hh;exact⟨h1.imp λi y j x u hi hj hr=>p_ hr (g9 hp (h2 y (aM hi)) hj),h2,Li hh⟩
 have ofR:∀{nm:aG} {ex:aU} {xs:Row} {lo hi:aG} {v:a7},σ (cG nm)= .o (.row el ex xs)->tn (c.P nm) lo hi v->mZ w v (dR xs lo hi) te.ks.length (λ_ _ u x=>Sc u x)/\(∀y∈dR xs lo hi,y.map CV.kd=te.ks)/\(dR xs lo hi).length<=maxLen:=by
  intro nm ex xs lo hi v hg hv;obtain⟨t2,q1,q2,q3⟩:=uZ hok hg hv;obtain rfl:te=t2:=aD (ht.symm.trans q1);refine⟨q3.imp λi y j x u hi hj hr=> ?_,q2,cm (Gp _ _ _) (se (hok.obj nm _ hg).at_)⟩
  have hl:=g9 hp (q2 y (aM hi)) hj;split at hr
  ·exact vk hr hl
  ·exact p_ hr hl
 cases x with
 |sh e' ys=>obtain⟨rfl,rfl⟩:=bF (aD h);exact ofH hx
 |own n=>
  obtain⟨ob,hg,h⟩:=Rd.bind_some h;have hg:=cW hg;have hx:v=mb (c.P n):=hx;subst hx;cases ob with
  |row e' ex ys=>obtain⟨rfl,rfl⟩:=bF (aD h);have:=ofR hg (tM hok hg);rwa[pF]at this
  |eU e' ys=>obtain⟨rfl,rfl⟩:=bF (aD h);have:=ofH (nV hok hg (Fj hok hg));rwa[pF]at this
  |_=>simp at h
 |vw n lo hi=>
  obtain⟨ob,hg,h⟩:=Rd.bind_some h;have hg:=cW hg;cases ob with
  |row e' ex ys=>obtain⟨rfl,rfl⟩:=bF (aD h);exact ofR hg hx
  |eU e' ys=>obtain⟨rfl,rfl⟩:=bF (aD h);exact ofH (nV hok hg hx)
  |_=>simp at h
 |la n i j=>
  obtain⟨ob,hg,h⟩:=Rd.bind_some h;have hg:=cW hg;cases ob with
  |row e' ex ys=>
   cases ex with
   |false=>simp at h
   |true=>
   obtain⟨t1,Zl,h⟩:=Rd.bind_some h;have Zl:=dz Zl;split at h
   ·rename_i e2 wW;obtain⟨rfl,rfl⟩:=bF (aD h);obtain⟨⟨m8,hx⟩,_⟩:=hx;obtain⟨zs,y,t2,q1,q2,q3,q4,q5,q6,q7,q8⟩:=uM hok hg Zl wW m8;obtain rfl:te=t2:=aD (ht.symm.trans q3);rw[ea q1 q2];have:=Ii q7 q8;rw[pF,q5]at this;subst hx;exact⟨this,q6,se q7⟩
   ·simp at h
  |_=>simp at h
 |_=>simp[kY]at h
end
end Go.FG

namespace Go.FG
def eQ(E:eL)(w:bw)(c:dZ)(vals:cX a7)(xs:ax AV):Prop:=
 vals.size=xs.length/\∀(j:aG) (a:AV),xs[j]? =ah a->∃u:a7,vals[j]? =ah u/\dN E w c a u
theorem o_.cells{E:eL}{w:bw}{c:dZ}{agg:aU}{xs:ax AV}{v:a7}(h:o_ E w c agg xs v):eQ E w c v.cells xs:=by
 unfold o_ at h;split at h
 ·rename_i a;rw[BQ h.one];refine⟨rfl,λj a' hj=> ?_⟩
  cases j with
  |zero=>simp at hj;subst hj;exact⟨v,rfl,h⟩
  |succ=>simp at hj
 ·obtain⟨vals,rfl,hs,hv⟩:=h;exact⟨hs,hv⟩
 ·exact h.elim
theorem eQ.one{E:eL}{w:bw}{c:dZ}{xs:ax AV}{vals:cX a7}(h:eQ E w c vals xs):∀u∈vals.toList,u.oneCell'=true:=by
 intro u hu;obtain⟨j,hj⟩:=bQ hu;have jj:j<xs.length:=by rw[<-h.1];have:=(aP.1 hj).1;simpa using this
 obtain⟨u',h1,h2⟩:=h.2 j xs[j] (by simp[jj]);rw[cz,h1]at hj;cases hj;exact h2.one
theorem sU{α:Type}{xs ys:ax α}{j:aG}(h:j+ys.length<=xs.length):(iB xs j ys).length=xs.length:=by unfold iB;simp;omega
theorem n6{α:Type}{xs ys:ax α}{j:aG}(h:j+ys.length<=xs.length)(k:aG):(iB xs j ys)[k]? =if j<=k/\k<j+ys.length then ys[k-j]? else xs[k]? :=by
 unfold iB;by_cases h1:k<j
 ·rw[a_ (by omega),bY,dx (by simp;omega),dU,ba h1]
 ·by_cases h2:k<j+ys.length
  ·rw[ba ⟨by omega,h2⟩,bY,cT (by simp;omega),dx (by simp;omega)];congr 1;simp;omega
  ·rw[a_ (by omega),bY,cT (by simp;omega),cT (by simp;omega),dK];congr 1;simp;omega
theorem zV{α:Type}{xs ys:ax α}{j:aG}{x:α}(h:x∈iB xs j ys):x∈xs\/x∈ys:=by
 unfold iB at h;simp only[aX]at h;rcases h with (h|h)|h
 ·exact .inl (kh h)
 ·exact .inr h
 ·exact .inl (j6 h)
theorem eQ.put{E:eL}{w:bw}{c:dZ}{xs ys:ax AV}{vals vs:cX a7}(h:eQ E w c vals xs)(h':eQ E w c vs ys){j:aG}(hl:j+ys.length<=xs.length):eQ E w c (iC vals j vs.toList) (iB xs j ys):=by
 have hb:j+vs.toList.length<=vals.size:=by rw[h.1,dm,h'.1];exact hl
 refine⟨by rw[iY hb,sU hl];exact h.1,λk a hk=> ?_⟩
 rw[n6 hl]at hk;rw[mh hb,dm,h'.1];split at hk
 ·rename_i hc;rw[ba hc,cz];exact h'.2 _ a hk
 ·rename_i hc;rw[a_ hc];exact h.2 k a hk
theorem N9(off:aG):∀(l:ax a7) (k:aG) (cells:cX a7),off+k+l.length<=cells.size->
  ((l.zipIdx k).foldl (λr p=>r.setIfInBounds (off+p.2) p.1) cells).size=cells.size/\
  ∀q:aG,((l.zipIdx k).foldl (λr p=>r.setIfInBounds (off+p.2) p.1) cells)[q]? =if off+k<=q/\q<off+k+l.length then l[q-(off+k)]? else cells[q]? :=by
 intro l;induction l with
 |nil=>intro k cells _;refine⟨rfl,λq=> ?_⟩;rw[a_ (by simp)];rfl
 |cons v rest ih=>
  intro k cells hl;simp only[bU]at hl;obtain⟨h1,h2⟩:=ih (k+1) (cells.setIfInBounds (off+k) v) (by simp;omega);simp only[List.zipIdx_cons,nJ];refine⟨by rw[h1];simp,λq=> ?_⟩
  rw[h2 q];by_cases hq:q=off+k
  ·subst hq;rw[a_ (by omega),ba ⟨by omega,by simp⟩,mY,ba rfl,ba (by omega)];simp
  ·by_cases hr:off+(k+1)<=q/\q<off+(k+1)+rest.length
   ·rw[ba hr,ba ⟨by omega,by simp;omega⟩];rw[show q-(off+k)=(q-(off+(k+1)))+1 by omega,dr]
   ·rw[a_ hr,a_ (by simp;omega),mY,a_ (λh=>hq h.symm)]
theorem BX{off:aG}{vs cells:cX a7}(h:off+vs.size<=cells.size):(vs.zipIdx.foldl (λr (p:a7×aG)=>r.setIfInBounds (off+p.2) p.1) cells)=iC cells off vs.toList:=by
 rw[<-Array.foldl_toList,Array.toList_zipIdx];obtain⟨h1,h2⟩:=N9 off vs.toList 0 cells (by simpa using h);have hb:off+vs.toList.length<=cells.size:=by simpa using h
 apply Array.ext_getElem?;intro q;rw[h2 q,mh hb];simp
theorem Mb{E:eL}{w:bw}{c:dZ}{k:Ck}(h:(match k with| .o=>ao|_=>aj)=aj):dN E w c (AE k) (gF k):=by cases k<;>first|rfl|exact⟨rfl,bC _⟩|simp at h
theorem zY(k:Ck):bm (AE k)=[]:=by cases k<;>rfl
theorem Gr{E:eL}{w:bw}{c:dZ}{ks:ax Ck}(h:JO ks=aj):eQ E w c (ks.map gF).toArray (ks.map AE):=by
 refine⟨by simp,λj a hj=> ?_⟩
 rw[bg]at hj;cases hk:ks[j]? with
 |none=>rw[hk]at hj;cases hj
 |some k=>rw[hk]at hj;cases hj;exact⟨gF k,by simp[hk],Mb (bf.1 h k (aM hk))⟩
section
variable {P:cC} {E:eL} {σ:St} {a:Act} {w:bw} {c:dZ} {o:eD} {nm:aG} {e:qQ}
theorem LO(hE:dP P E)(dg:eC E σ a w c){t:aG}{pl:ax (aG×aG)}{size:aG}(sR:∀f o n,E.fo t f=ah (o,n)->pl[f]? =ah (o,n)/\o+n<=size):∀(ps:ax (aG×cY)) (l:ax (aG×ax AV)),(DR E t ps).val σ=ah l->
  ∀(vals:cX a7) (xs:ax AV),eQ E w c vals xs->xs.length=size->(∀a∈xs,iu σ a)->
  ∃jo,n9 (λi=>pl[i]?) vals (ps.map λ(i,x)=>(i,a.eval x))=ah jo/\eQ E w c jo (Jn xs l)/\(∀a∈Jn xs l,iu σ a):=by
 intro ps;induction ps with
 |nil=>intro l h vals xs hv _ hk;obtain rfl:=aD h;exact⟨vals,rfl,hv,hk⟩
 |cons p r ih=>
  obtain⟨f,x⟩:=p;intro l h vals xs hv hsz hk;obtain⟨v,h1,h⟩:=Rd.bind_some h;obtain⟨SM,hkv⟩:=kR dg h1;cases v with
  |v g ys=>
   replace h:(match E.fo t f with|some (o,n)=>bif bA ys.length n then(DR E t r).bind λl=> .ret ((o,ys)::l)else .fail|none=> .fail:Rd (ax (aG×ax AV))).val σ=ah l:=h;cases hf:E.fo t f with
   |none=>rw[hf]at h;simp at h
   |some q=>
    obtain⟨off,n⟩:=q;rw[hf]at h;obtain⟨hn,h⟩:=b9 h;have hn:=aN hn;obtain⟨l',hl',h⟩:=Rd.bind_some h;obtain rfl:=aD h;obtain⟨Lk,hp2⟩:=sR f off n hf;have hc:=o_.cells SM;have mD:off+ys.length<=xs.length:=by omega
    obtain⟨jo,q1,q2,q3⟩:=ih l' hl' (iC vals off (a.eval x).cells.toList) (iB xs off ys) (hv.put hc mD) (by rw[sU mD];exact hsz)
     (λb hb=>by
      rcases zV hb with hb|hb
      ·exact hk b hb
      ·exact λn hn=>hkv n (bz.2 ⟨b,hb,hn⟩))
    refine⟨jo, ?_,q2,q3⟩
    simp only[eF,n9,Lk];have c1:(a.eval x).cells.size=n:=by rw[hc.1,hn]
    have c2:¬(off+(a.eval x).cells.size>vals.size):=by rw[hc.1,hv.1];omega
    rw[a_ (by simp[c1];rw[c1]at c2;omega)];have:=BX (off:=off) (vs:=(a.eval x).cells) (cells:=vals) (by omega);rw[<-q1];exact je (λz=>n9 (λi=>pl[i]?) z _) this
  |jf=>simp at h
  |un=>simp at h
theorem Pq(hE:dP P E)(hok:Ok E σ w c)(dg:eC E σ a w c)(hd:∀d,o.dst=ah d->d<a.tmps.size){t:aG}{ps:cX (aG×cY)}(ho:o.op= .build t ps)(h:(kH E nm o).val σ=ah e):fO P E σ a w c o e.ws:=by simp only[kH,ho]at h;obtain⟨ti,h1,h⟩:=Rd.bind_some h;obtain⟨hb,h⟩:=b9 h;obtain⟨l,h2,h⟩:=Rd.bind_some h;have ht:=dz h1;simp only[aJ]at hb;obtain⟨xV,rY⟩:=hb;obtain⟨inf,hi,hsz,_,_,hz⟩:=hE.info t ti ht;obtain⟨z,HH,Bn,_⟩:=hz xV;obtain⟨d,Vr,ha,_⟩:=hE.desc t ti ht;obtain⟨fs,rfl,Ri⟩:=ha rY;obtain⟨pl,Lk,hp2⟩:=hE.pl t ti ht rY fs Vr;obtain⟨vals,q1,q2,q3⟩:=LO (size:=ti.ks.length) hE dg (λf o n hf=>⟨hp2 f o n hf,(Ri f o n hf).choose_spec.2.2.2.2⟩) ps.toList l h2 _ _ (Gr (w:=w) (c:=c) (E:=E) xV) (by simp) (λb hb=>by obtain⟨k,_,rfl⟩:=cD.1 hb;exact rZ (zY k));refine eZ hok dg hd h (v:= .agg vals) ⟨vals,rfl,q2.1,q2.2⟩ (λn hn=>by obtain⟨x,hx,hn⟩:=bz.1 hn;exact q3 x hx n hn) ?_;unfold execOp;rw[ho];refine gZ (run_build w t _ vals ?_);simp only[Program.built,hi,Vr,HH,Lk,Bn,f_,xD];exact q1
theorem Pt(hE:dP P E)(hok:Ok E σ w c)(dg:eC E σ a w c)(hd:∀d,o.dst=ah d->d<a.tmps.size){t f:aG}{x:cY}(ho:o.op= .field t x f)(h:(kH E nm o).val σ=ah e):fO P E σ a w c o e.ws:=by
 simp only[kH,ho]at h;obtain⟨v,h1,h⟩:=Rd.bind_some h;obtain⟨hv,hk⟩:=kR dg h1;cases v with
 |v g xs=>
  cases g with
  |true=>
   cases hf:E.fo t f with
   |none=>rw[hf]at h;simp at h
   |some r=>
    obtain⟨j,n⟩:=r;rw[hf]at h;obtain⟨hb,h⟩:=b9 h;rw[aJ]at hb;cases hx:xs.drop j with
    |nil=>rw[hx]at h;simp at h
    |cons y ys=>
     rw[hx]at h;have hj:xs[j]? =ah y:=by have:=dK (xs:=xs) (i:=j) (j:=0);rw[hx]at this;simpa using this.symm
     obtain⟨vals,q1,q2,q3⟩:∃vals:cX a7,a.eval x= .agg vals/\vals.size=xs.length/\∀(j:aG) (b:AV),xs[j]? =ah b->∃u:a7,vals[j]? =ah u/\dN E w c b u:=hv;obtain⟨u,hu,Rf⟩:=q3 j y hj;obtain⟨ti,ht,rY⟩:=hE.fo t f j n hf;obtain⟨d,Vr,ha,_⟩:=hE.desc t ti ht;obtain⟨fs,rfl,Ri⟩:=ha rY;obtain⟨fd,g1,g2,_⟩:=Ri f j n hf;have hAg:=hE.fl t f hb.1 fs fd Vr g1 w;refine eZ hok dg hd h (s:= .v ao [y]) (v:=u) Rf (λm hm=>hk m (bz.2 ⟨y,aM hj,by simpa [b8]using hm⟩)) ?_;unfold execOp;rw[ho];refine gZ ?_;simp only[Instr.field,bV,run_underlying Vr,bk,g1,q1,asAgg,cy,part,hAg,cN,if_false,g2,hu]
  |false=>simp at h
 |jf=>simp at h
 |un=>simp at h
theorem Po(hE:dP P E)(hok:Ok E σ w c)(dg:eC E σ a w c)(hd:∀d,o.dst=ah d->d<a.tmps.size){t:aG}(ho:o.op= .alloc t)(h:(kH E nm o).val σ=ah e):fO P E σ a w c o e.ws:=by
 simp only[kH,ho]at h;obtain⟨ti,h1,h⟩:=Rd.bind_some h;obtain⟨hb,h⟩:=b9 h;obtain⟨u,h2,h⟩:=Rd.bind_some h;obtain⟨hf,jj⟩:=jA h2;obtain rfl:=aD h;have hr:=LY (P:=P) w hE (dz h1) hb;refine zI hok dg hd (p:=⟨ao,w.heap.size,0,0,0,0⟩) (g:=λ_ _=>⟨ao,0,0,0,0,0⟩) hf jj (λc' hP _ _ _=> ?_) (λc' hP _ b hb=> ?_) (λxs hx b hb=> ?_) (λc' hP _=> ?_) (λn hn=> .inl (by simpa [b8,bm]using hn)) (λb hb=>heap_alloc_old w _ b hb) (by simp) rfl rfl rfl (v:= .pointer (ah (ad w.heap.size 0))) (w':=w.alloc (.cells (ti.ks.map gF).toArray t)) ?_
 ·obtain⟨z1,z2⟩:=Gr (E:=E) (w:=w.alloc (.cells (ti.ks.map gF).toArray t)) (c:=c') hb;exact⟨_,by rw[hP];exact o4.alloc w _ t,z1,z2⟩
 ·have:b=(c'.P nm).blk:=hb;rw[this,hP];exact bR _
 ·cases hx;obtain⟨k,_,rfl⟩:=cD.1 hb;exact rZ (zY k)
 ·show _=_;rw[hP]
 ·unfold execOp;rw[ho];exact gZ hr
theorem ZR(hok:Ok E σ w c)(dg:eC E σ a w c)(hd:∀d,o.dst=ah d->d<a.tmps.size){t:aG}{x:cY}(ho:o.op= .box t x)(h:(kH E nm o).val σ=ah e):fO P E σ a w c o e.ws:=by
 simp only[kH,ho]at h;obtain⟨v,h1,h⟩:=Rd.bind_some h;obtain⟨hv,hk⟩:=kR dg h1;cases v with
 |v g xs=>
  obtain⟨u,h2,h⟩:=Rd.bind_some h;obtain⟨hf,jj⟩:=jA h2;obtain rfl:=aD h;have hr:=P_ (P:=P) w t (a.eval x);have kx:∀b∈xs,iu σ b:=λb hb n hn=>hk n (bz.2 ⟨b,hb,hn⟩);have nC:=o_.cells hv;refine zI hok dg hd (p:=⟨ao,w.heap.size,0,0,0,0⟩) (g:=λ_ _=>⟨ao,0,0,0,0,0⟩) hf jj (λc' hP _ hK hA=> ?_) (λc' hP _ b hb=> ?_) (λys hx b hb=> ?_) (λc' hP _=> ?_) (λn hn=> .inl (by simpa [b8,bm]using hn)) (λb hb=>heap_alloc_old w _ b hb) (by simp) rfl rfl rfl (v:= .pointer (ah (ad w.heap.size 0))) (w':=w.alloc (.cells (a.eval x).cells t)) ?_
  ·refine⟨_,by rw[hP];exact o4.alloc w _ t,nC.1,λj y hj=> ?_⟩
   obtain⟨u,hu,hy⟩:=nC.2 j y hj;exact⟨u,hu,hy.frame (λb hb=>heap_alloc_old w _ b (hok.lt b hb)) hK (λn hn=>hA n (.inl (kx y (aM hj) n hn)))⟩
  ·have:b=(c'.P nm).blk:=hb;rw[this,hP];exact bR _
  ·cases hx;exact kx b hb
  ·show _=_;rw[hP]
  ·unfold execOp;rw[ho];exact gZ hr
 |jf=>simp at h
 |un=>simp at h
end
end Go.FG

namespace Go.FG
def HR(E:eL)(ks:ax Ck)(_i j:aG):Pl:=
 ⟨aj,0,0,0,0,match ks[j]? with|some (.l e)=>(match E.ty e with|some t=>t.ks.length|none=>0)|_=>0⟩
theorem tC{p:Pl}{G:aG->aG->Pl}{xs:Row}(h:∀i j,(G i j).nil=aj):CF p G xs:=
 ⟨λi j _ hn=>(by rw[h]at hn;cases hn),λi j i' j' _ _ hn=>(by rw[h]at hn;cases hn)⟩
theorem KE{E:eL}{w:bw}{ks:ax Ck}(hf:flat E ks=aj)(hn:JO ks=aj){i j:aG}{k:Ck}(hk:ks[j]? =ah k):XC E w (HR E ks) i j (gF k) (wJ k):=by
 have h1:=bf.1 hf k (aM hk);have h2:=bf.1 hn k (aM hk);cases k with
 |l e=>
  replace h1:(match E.ty e with|some ti=>plain ti.ks|none=>ao)=true:=h1;cases ht:E.ty e with
  |none=>rw[ht]at h1;cases h1
  |some t=>
   rw[ht]at h1;refine⟨rfl,t,ht,h1, ?_,λy hy=>(by cases hy),⟨rfl,λ_=>⟨rfl,rfl⟩,λh=>by cases h⟩⟩
   show(match ks[j]? with|some (.l e)=>(match E.ty e with|some t=>t.ks.length|none=>0)|_=>0)=_;rw[hk];simp only[ht]
 |o=>cases h2
 |s=>exact⟨rfl,bC _⟩
 |_=>exact⟨rfl,trivial⟩
theorem Iv{E:eL}{w:bw}{K:aG->Prop}{k:Ck}(h2:(match k with| .o=>ao|_=>aj)=aj):cK E w K (gF k) (wJ k):=by
 cases k with
 |o=>cases h2
 |i k=>exact .i _ _
 |b=>exact .b _
 |s=>exact .s _ (bC _)
 |l e=>exact .nl _ _ _
theorem UP{k:Ck}(h2:(match k with| .o=>ao|_=>aj)=aj):(wJ k).kd=k:=by cases k<;>first|rfl|cases h2
theorem vm{ks:ax Ck}(hn:JO ks=aj)(n:aG):∀y∈aR ks n,y.map CV.kd=ks:=by
 intro y hy;rw[(List.mem_replicate.1 hy).2,jr];have:∀k∈ks,(CV.kd∘wJ) k=k:=λk hk=>UP (bf.1 hn k hk);conv=>rhs;rw[<-List.map_id ks]
 exact Me this
theorem sj{ks:ax Ck}{n i j:aG}{y:ax CV}{x:CV}(hi:(aR ks n)[i]? =ah y)(hj:y[j]? =ah x):i<n/\∃k,ks[j]? =ah k/\x=wJ k:=by
 unfold aR at hi;have jj:=(aP.1 hi).1;rw[List.length_replicate]at jj;rw[List.getElem?_replicate,ba jj]at hi;cases hi;rw[bg]at hj;cases hk:ks[j]? with
 |none=>rw[hk]at hj;cases hj
 |some k=>rw[hk]at hj;cases hj;exact⟨jj,k,rfl,rfl⟩
theorem km{ks:ax Ck}{n i j:aG}{k:Ck}(hi:i<n)(hk:ks[j]? =ah k):(madeCells (ks.map gF).toArray (n*ks.length))[i*ks.length+j]? =ah (gF k):=by
 have hj:=(aP.1 hk).1;have jj:i*ks.length+j<n*ks.length:=by have:(i+1)*ks.length<=n*ks.length:=cL _ hi;rw[dE]at this;omega
 have hm:(i*ks.length+j)%ks.length=j:=by rw[KI,Nat.mul_add_mod];exact Nat.mod_eq_of_lt hj
 unfold madeCells;rw[KF,Array.getElem?_range,ba jj,fM];congr 1;simp only[xI,bM,hm];rw[getElem!_def,f_,bg,hk];rfl
theorem wk{P:cC}{E:eL}{σ:St}(hE:dP P E){t:aG}{k:lU}(h:(oC E t).val σ=ah (.i k)):P.underlying t=ah (.int k):=by obtain⟨ti,h1,h2,h3⟩:=qc h;obtain⟨d,hd,_,hn⟩:=hE.desc t ti h1;rcases hn h2 with ⟨k,h,rfl⟩|⟨h,_⟩|⟨h,_⟩|⟨e',h,_⟩|⟨h,_⟩<;>rw[h3]at h<;>simp_all
theorem Jf{P:cC}{E:eL}(hE:dP P E){e:aG}{te:TI}(ht:E.ty e=ah te)(h:(Z_ te.ks&& !te.agg)=aj):te.ks=[.i .u8]/\P.underlying e=ah (.int .u8):=by
 simp only[aJ,dA]at h;have hk:te.ks=[.i .u8]:=by
  have:=h.1;unfold Z_ at this;split at this
  ·assumption
  ·cases this
 obtain⟨d,hd,_,hn⟩:=hE.desc e te ht;refine⟨hk, ?_⟩
 rcases hn h.2 with ⟨k,h,rfl⟩|⟨h,_⟩|⟨h,_⟩|⟨e',h,_⟩|⟨h,_⟩<;>rw[hk]at h<;>simp_all
section
variable {P:cC} {E:eL} {σ:St} {a:Act} {w:bw} {c:dZ} {o:eD} {nm:aG} {e:qQ}
theorem LZ(hE:dP P E){src dst el:aG}{te:TI}(hs:P.underlying src=ah (.slice el))(hd:P.underlying dst=ah .string)(he:P.underlying el=ah (.int .u8))(hk:te.ks=[.i .u8]){v:a7}{xs:Row}
  (h:mZ w v xs te.ks.length (λ_ _ u x=>Sc u x)) (jI:∀y∈xs,y.map CV.kd=te.ks):(convert src dst v).run P w= .ok (.string (bytesOf xs)) w:=by
 obtain⟨A,cp,rfl,h2⟩:=h;by_cases hx:xs=[]
 ·subst hx;rw[lP];have e0:bytesOf []=Ee:=rfl;rw[e0];cases A with
  |none=>exact run_convert_bytes_nil w src el hs he 0 cp dst hd
  |some ad'=>rw[run_convert_bytes_string w src dst el _ 0 cp hs he hd];exact run_bytesToString w ad' 0 cp [] rfl
 ·obtain⟨b,oo,rfl,h3⟩:=h2 hx;have:=run_convert_bytes_arg w src el hs he b oo xs.length cp (xs.map λy=>bS (y.getD 0 (.b ao))) (by simp) (λi hi=>by
   have hy:=jI xs[i] (bH hi);rw[hk]at hy;cases hq:xs[i]with
   |nil=>rw[hq]at hy;cases hy
   |cons x r=>
    rw[hq]at hy;simp only[eF,Va,List.map_eq_nil_iff]at hy;obtain⟨hx1,rfl⟩:=hy;obtain⟨u,hu,hr⟩:=h3 i xs[i] 0 x (by simp[hi]) (by rw[hq];rfl);rw[hk]at hu;simp only[bU,lP,bG,Nat.mul_one,rS]at hu;rw[hu,hr.1];cases x with
    |i k n=>cases hx1;simp[L5,e6,hi,hq,bS]
    |_=>cases hx1) dst hd
  rw[this];unfold strOfNums bytesOf;rw[jr];rfl
theorem gM(xs:Row):(bytesOf xs).size=xs.length:=by unfold bytesOf;simp[bh]
theorem kG(s:aq):(pA s).length=s.size:=by unfold pA;simp
theorem DY{s:aq}{i j:aG}{y:ax CV}{x:CV}(hi:(pA s)[i]? =ah y)(hj:y[j]? =ah x):j=0/\∃b,s.data[i]? =ah b/\x= .i .u8 (b.toNat:ay):=by
 unfold pA at hi;rw[bg,cz]at hi;cases hb:s.data[i]? with
 |none=>rw[hb]at hi;cases hi
 |some b=>
  rw[hb]at hi;cases hi;cases j with
  |zero=>cases hj;exact⟨rfl,b,rfl,rfl⟩
  |succ j=>simp at hj
theorem F8(s:aq):∀y∈pA s,y.map CV.kd=[.i .u8]:=by intro y hy;obtain⟨b,_,rfl⟩:=cD.1 hy;rfl
theorem HX(hE:dP P E)(hok:Ok E σ w c)(dg:eC E σ a w c)(hd:∀d,o.dst=ah d->d<a.tmps.size){src dst:aG}{x:cY}(ho:o.op= .convert src dst x)(h:(kH E nm o).val σ=ah e)(hc:e.cond=aj):fO P E σ a w c o e.ws:=by
 simp only[kH,ho]at h;obtain⟨ks,h1,h⟩:=Rd.bind_some h;obtain⟨kd,h2,h⟩:=Rd.bind_some h;obtain⟨v,h3,h⟩:=Rd.bind_some h;obtain⟨ev,kv⟩:=h_ dg h3;have exec:∀{u r:a7} {w':bw},a.eval x=u->(convert src dst u).run P w= .ok r w'->(execOp a.eval o).run P w= .ok (.value r) w':=by intro u r w' hu hr;unfold execOp;rw[ho];exact gZ (by rw[hu];exact hr)
 cases kd with
 |i k=>
  cases ks with
  |i k0=>
   cases v with
   |i k1 n=>refine eZ hok dg hd h (v:= .int k (k.wrap n)) rfl (λn hn=>by simp[b8,bm]at hn) (exec ev ?_);simp[convert,run_underlying (wk hE h1),run_underlying (wk hE h2),Conv.intToInt]
   |_=>simp at h
  |_=>simp at h
 |s=>
  have zL:=jQ hE h2;cases ks with
  |s=>
   cases v with
   |s s=>refine eZ hok dg hd h (v:= .string s) ⟨rfl,ev.2⟩ (λn hn=>by simp[b8,bm]at hn) (exec ev.1 ?_);simp[convert,run_underlying (jQ hE h1),run_underlying zL]
   |_=>simp at h
  |l el=>
   have Lm:=jD hE h1;have gen:(∀e,v=e->((kY E e).bind λ(e,xs)=>(qn E e).bind λte=>bif bA e el&&Z_ te.ks&& !te.agg then Il o (decide (xs.length<=4611686018427387904)) (.s (bytesOf xs))else .fail).val σ=ah ‹qQ›)->fO P E σ a w c o (‹qQ›).ws:=by
    intro h;obtain⟨⟨e1,xs⟩,q1,h⟩:=Rd.bind_some (h v rfl);obtain⟨te,q2,h⟩:=Rd.bind_some h;have q2:=dz q2;obtain⟨q3,h9⟩:=b9 h;rw[Bool.and_assoc,aJ]at q3;have:=aN q3.1;subst this;obtain⟨q4,q5⟩:=Jf hE q2 q3.2;have hp:plain te.ks=true:=by rw[q4];rfl
    obtain⟨r1,r2,r3⟩:=w_ hok ev q1 q2 hp;exact Cr hok dg hd h9 hc (v:= .string (bytesOf xs)) (λhb=>⟨rfl,by unfold GF;rw[gM];exact ca hb⟩) (rZ rfl) (λ_=>exec rfl (LZ hE Lm zL q5 q4 r1 r2))
   cases v with
   |nl=>obtain⟨te,q1,h⟩:=Rd.bind_some h;obtain⟨q3,h⟩:=b9 h;obtain⟨q4,q5⟩:=Jf hE (dz q1) q3;exact eZ hok dg hd h (v:= .string Ee) ⟨rfl,bC _⟩ (λn hn=>by simp[b8,bm]at hn) (exec ev (run_convert_bytes_nil w src el Lm q5 0 0 dst zL))
   |_=>exact gen (λ_ hv=>by cases hv;exact h)
  |_=>simp at h
 |_=>simp at h
theorem DP(hE:dP P E)(hok:Ok E σ w c)(dg:eC E σ a w c)(hd:∀d,o.dst=ah d->d<a.tmps.size){t:aG}{x y:cY}(ho:o.op= .makeSlice t x y)(h:(kH E nm o).val σ=ah e)(hc:e.cond=aj):fO P E σ a w c o e.ws:=by
 simp only[kH,ho]at h;obtain⟨⟨k1,n⟩,h1,h⟩:=Rd.bind_some h;obtain⟨⟨k2,m⟩,h2,h⟩:=Rd.bind_some h;obtain⟨ti,h3,h⟩:=Rd.bind_some h;have ex:=oD dg h1;have ey:=oD dg h2;have h3:=dz h3;split at h
 ·rename_i el rY AM;obtain⟨te,h4,h⟩:=Rd.bind_some h;have h4:=dz h4;obtain⟨h5,h⟩:=b9 h;obtain⟨u,h6,h⟩:=Rd.bind_some h;obtain⟨hf,jj⟩:=jA h6;obtain rfl:=aD h;generalize (bif plain te.ks then nm else nm+999)=nm at hf jj hc⊢;simp only[aJ,aZ,cF]at hc h5;obtain⟨⟨c0,rfl⟩,c1,c2⟩:=hc;obtain⟨xV,Ml⟩:=h5;have hu:=nR hE h3 rY AM;obtain⟨inf,hi,hsz,hby,me,hz⟩:=hE.info el te h4;obtain⟨z,HH,Bn,_⟩:=hz xV;have hr:=run_make (P:=P) w t el inf z hu hi HH k1 k2 n n c0 (Int.le_refl _) (by
   have e1:((n.toNat*te.bytes:aG):ay)<=140737488355328:=(by generalize n.toNat*te.bytes=q at c1⊢;omega)
   rw[hby,Int.mul_comm];rw[RM,Int.toNat_of_nonneg c0]at e1;omega) (by omega)
  rw[Bn,hsz]at hr;refine zI hok dg hd (p:=⟨ao,w.heap.size,0,n.toNat,n.toNat,te.ks.length⟩) (g:=HR E te.ks) hf jj (λc' hP hG _ _=> ?_) (λc' hP hG b hb=> ?_) (λxs hx b hb=>by cases hx) (λc' hP _=> ?_) (λn hn=> .inl (by simpa [b8,bm]using hn)) (λb hb=>heap_alloc_old w _ b hb) (by simp) rfl rfl rfl (v:= .slice (ah ⟨w.heap.size,0,ai⟩) n.toNat n.toNat) (w':=w.alloc (.cells (madeCells (te.ks.map gF).toArray (n.toNat*te.ks.length)) el)) ?_
  ·refine⟨⟨te,h4,by rw[hP],vm xV _⟩, ?_,λ_=>tC (λi j=>(by rw[hG];try rfl))⟩
   rw[hP,hG];refine⟨by simp[aR],λhn=>(by cases hn),λ_=>⟨_,o4.alloc w _ el,bR _,(by show n.toNat<=2^63-1;omega),by rw[size_madeCells];simp,λi y j x hi hj=> ?_⟩⟩
   obtain⟨g6,k,hk,rfl⟩:=sj hi hj;refine⟨gF k, ?_,by rw[ba rfl];exact KE Ml xV hk⟩
   rw[bG];exact km g6 hk
  ·rcases hb with ⟨_,rfl⟩|⟨_,i,j,_,hn,_⟩
   ·rw[hP];exact bR _
   ·rw[hG]at hn;cases hn
  ·show _=mb _;rw[hP];rfl
  ·unfold execOp;rw[ho];exact gZ (by rw[ex,ey];exact hr)
 ·simp at h
end
end Go.FG

namespace Go.FG
theorem iQ{xs:Row}{i j:aG}{cs:ax CV}:(eN xs i j cs).length=xs.length:=by unfold eN;simp
theorem u_{xs:Row}{i j:aG}{cs y:ax CV}(hy:xs[i]? =ah y)(i':aG):(eN xs i j cs)[i']? =if i'=i then ah (iB y j cs)else xs[i']? :=by
 have jj:=(aP.1 hy).1;have hd:xs.getD i []=y:=by rw[cM,hy];rfl
 unfold eN;rw[Md,hd];by_cases h:i'=i
 ·subst h;simp[jj]
 ·rw[a_ h,a_ (λe=>h e.symm)]
theorem o4.uniq{w:bw}{b:aG}{v1 v2:cX a7}(h1:o4 w b v1)(h2:o4 w b v2):v1=v2:=by obtain⟨t,fr,h1,_⟩:=h1;obtain⟨t',fr',h2,_⟩:=h2;rw[h1]at h2;cases h2;rfl
theorem ij.pos{w:bw}{p:Pl}{xs:Row}{R:aG->aG->a7->CV->Prop}(h:ij w p xs R){i:aG}(hi:i<p.n):p.nil=ao/\∃vals,o4 w p.blk vals:=by
 have iq:p.nil=false:=by
  cases hn:p.nil with
  |false=>rfl
  |true=>have:=(h.nil hn).1;subst this;have:=h.n;simp at this;omega
 obtain⟨vals,hb,_⟩:=h.mem iq;exact⟨iq,vals,hb⟩
theorem ij.aea{w:bw}{p:Pl}{xs:Row}{R R':aG->aG->a7->CV->Prop}(h:ij w p xs R){vals:cX a7}(hbv:o4 w p.blk vals)(hs:∀y∈xs,y.length=p.sz){i j:aG}{cs:ax CV}{vs:ax a7}(hi:i<p.n)(hj:j+cs.length<=p.sz)(hl:vs.length=cs.length)
  (zO:∀(q:aG) (x:CV),cs[q]? =ah x->∃u:a7,vs[q]? =ah u/\R' i (j+q) u x)
  (hold:∀(i1:aG) (y:ax CV) (j1:aG) (x:CV) (u:a7),xs[i1]? =ah y->y[j1]? =ah x->(i1≠i\/¬(j<=j1/\j1<j+cs.length))->R i1 j1 u x->R' i1 j1 u x):
  p.off+i*p.sz+j+vs.length<=vals.size/\ij (w.setRow p.blk (iC vals (p.off+i*p.sz+j) vs)) p (eN xs i j cs) R':=by
 have iq:p.nil=false:=by
  cases hn:p.nil with
  |false=>rfl
  |true=>have:=(h.nil hn).1;subst this;have:=h.n;simp at this;omega
 obtain⟨jo,hb,Vy,hcm,mD,hc⟩:=h.mem iq;obtain rfl:=hbv.uniq hb;have j_:i<xs.length:=by rw[<-h.n];exact hi
 have hy:xs[i]? =ah xs[i]:=by simp[j_]
 have GD:=hs xs[i] (bH j_);have h1:(i+1)*p.sz<=p.cap*p.sz:=cL _ (by omega);rw[dE]at h1;have sO:p.off+i*p.sz+j+vs.length<=vals.size:=by omega
 refine⟨sO,⟨by rw[iQ];exact h.n,λhn=>(by rw[iq]at hn;cases hn),λ_=> ?_⟩⟩
 refine⟨_,hb.setRow (iY sO),Vy,hcm,by rw[iY sO];exact mD,λi' y j' x m8 GA=> ?_⟩
 rw[u_ hy]at m8;rw[mh sO];by_cases Fs:i'=i
 ·subst Fs;rw[ba rfl]at m8;cases m8;rw[n6 (by omega)]at GA;by_cases hq:j<=j'/\j'<j+cs.length
  ·rw[ba hq]at GA;rw[ba (by omega)];obtain⟨u,hu,hr⟩:=zO (j'-j) x GA;refine⟨u, ?_, ?_⟩
   ·rw[<-hu];congr 1;omega
   ·rwa[show j+(j'-j)=j' by omega]at hr
  ·rw[a_ hq]at GA;obtain⟨u,hu,hr⟩:=hc _ _ _ _ hy GA;exact⟨u,by rw[a_ (by omega)];exact hu,hold _ _ _ _ _ hy GA (.inr hq) hr⟩
 ·rw[a_ Fs]at m8;obtain⟨u,hu,hr⟩:=hc _ _ _ _ m8 GA;refine⟨u, ?_,hold _ _ _ _ _ m8 GA (.inl Fs) hr⟩
  have Rj:j'<p.sz:=by rw[<-hs y (aM m8)];exact(aP.1 GA).1
  rw[a_ ?_];exact hu;rcases Mh Fs with jj|hgt
  ·have:(i'+1)*p.sz<=i*p.sz:=cL _ jj;rw[dE]at this;omega
  ·have:(i+1)*p.sz<=i'*p.sz:=cL _ hgt;rw[dE]at this;omega
theorem ij.put{w:bw}{p:Pl}{xs:Row}{R R':aG->aG->a7->CV->Prop}(h:ij w p xs R){vals:cX a7}(hbv:o4 w p.blk vals)(hs:∀y∈xs,y.length=p.sz){i j:aG}{cs:ax CV}{vs:ax a7}(hi:i<p.n)(hj:j+cs.length<=p.sz)(hl:vs.length=cs.length)
  (zO:∀(q:aG) (x:CV),cs[q]? =ah x->∃u:a7,vs[q]? =ah u/\R' i (j+q) u x)
  (hold:∀(i:aG) (y:ax CV) (j:aG) (x:CV) (u:a7),xs[i]? =ah y->y[j]? =ah x->R i j u x->R' i j u x):
  p.off+i*p.sz+j+vs.length<=vals.size/\ij (w.setRow p.blk (iC vals (p.off+i*p.sz+j) vs)) p (eN xs i j cs) R':=
 h.aea hbv hs hi hj hl zO (λi1 y j1 x u h1 h2 _ hr=>hold i1 y j1 x u h1 h2 hr)
theorem jP{xs:Row}{ks:ax Ck}(h:∀y∈xs,y.map CV.kd=ks)(i j:aG):fC xs i j↔i<xs.length/\∃e,ks[j]? =ah (.l e):=by
 constructor
 ·rintro ⟨y,x,hy,hx,hl⟩;refine⟨(aP.1 hy).1, ?_⟩
  cases x with
  |l e ys=>exact⟨e,by rw[<-h y (aM hy),bg,hx];rfl⟩
  |i=>simp[sI]at hl
  |b=>simp[sI]at hl
  |s=>simp[sI]at hl
 ·rintro ⟨hi,e,hk⟩;have hy:xs[i]? =ah xs[i]:=by simp[hi]
  have h1:=h xs[i] (bH hi);rw[<-h1,bg]at hk;cases hx:xs[i][j]? with
  |none=>rw[hx]at hk;cases hk
  |some x=>
   rw[hx]at hk;cases x with
   |l e2 ys=>exact⟨_,_,hy,hx,rfl⟩
   |i=>cases hk
   |b=>cases hk
   |s=>cases hk
theorem Lt{y cs:ax CV}{ks:ax Ck}{j:aG}(hy:y.map CV.kd=ks)(hc:cs.map CV.kd=(ks.drop j).take cs.length)(hj:j+cs.length<=ks.length):(iB y j cs).map CV.kd=ks:=by
 have hl:y.length=ks.length:=by rw[<-hy];simp
 apply Q7;intro q;rw[bg,n6 (by omega)];split
 ·rename_i h;have:(cs.map CV.kd)[q-j]? =((ks.drop j).take cs.length)[q-j]? :=by rw[hc]
  rw[bg]at this;rw[this,dU,ba (by omega),dK];congr 1;omega
 ·rw[<-hy,bg]
theorem sg{xs:Row}{ks:ax Ck}{i j:aG}{cs:ax CV}(h:∀y∈xs,y.map CV.kd=ks)(hc:cs.map CV.kd=(ks.drop j).take cs.length)(hj:j+cs.length<=ks.length)(hi:i<xs.length):∀y∈eN xs i j cs,y.map CV.kd=ks:=by
 intro y hy;obtain⟨q,hq⟩:=bQ hy;rw[u_ (y:=xs[i]) (by simp[hi])]at hq;split at hq
 ·cases hq;exact Lt (h _ (bH hi)) hc hj
 ·exact h y (aM hq)
theorem mH{E:eL}{w:bw}{K:aG->Prop}{p:Pl}{xs:Row}{el:aG}{te:TI}(ht:E.ty el=ah te)(hs:p.sz=te.ks.length)(jI:∀y∈xs,y.map CV.kd=te.ks)
  (h:ij w p xs (λ_ _ u x=>cK E w K u x)) (hK:p.nil=ao->K p.blk):cK E w K (mb p) (.l el xs):=by
 cases hq:p.nil with
 |true=>rw[nj hq,(h.nil hq).1];exact .nl _ _ _
 |false=>
  rw[fa hq,h.n];obtain⟨vals,hb,Vy,hmx,_,hc⟩:=h.mem hq;have Fp:=λi y j x (h1:xs[i]? =ah y) (h2:y[j]? =ah x)=>hc i y j x h1 h2;refine .l el xs p.blk p.off p.cap te (λi j=>(vals[p.off+i*p.sz+j]?).getD undef) ht (by rw[<-h.n];exact Vy) hmx (hK hq) jI (λi j y x h1 h2=> ?_) (λi j y x h1 h2=> ?_)
  ·obtain⟨u,hu,_⟩:=Fp i y j x h1 h2;rw[hb.cell,<-hs,hu];rfl
  ·obtain⟨u,hu,hr⟩:=Fp i y j x h1 h2;simp only[hu,vJ];exact hr
theorem rN{E:eL}{w:bw}{K:aG->Prop}{G:aG->aG->Pl}{i j:aG}{u:a7}{x:CV}(h:XC E w G i j u x)(hK:sI x=aj->(G i j).nil=ao->K (G i j).blk):cK E w K u x:=by
 cases x with
 |l e ys=>obtain⟨rfl,t,ht,hp,hs,jI,fN⟩:=h;exact mH ht hs jI (fN.frame (λ_=>rfl) (λi j y x u hi hj hr=>iX (g9 hp (jI y (aM hi)) hj) hr)) (hK rfl)
 |i=>exact iX rfl h
 |b=>exact iX rfl h
 |s=>exact iX rfl h
section
variable {P:cC} {E:eL} {σ:St} {a:Act} {w:bw} {c:dZ} {o:eD} {nm:aG} {e:qQ}
theorem wc{ex:aU}{k:Ck}{x:AV}{cv:CV}{ws:ax (aG×dS)}{u:a7}(hp:plain [k]=aj)(h:(EZ ex k x).val σ=ah (cv,ws))(hx:dN E w c x u):cv.kd=k/\Sc u cv/\sI cv=ao/\ws=[]:=by
 cases k with
 |i k=>
  cases x with
  |i k' n=>
   replace h:(if k=k' then Rd.ret (CV.i k n,[])else .fail:Rd (CV×ax (aG×dS))).val σ=ah (cv,ws):=h;split at h
   ·rename_i hk;subst hk;obtain⟨rfl,rfl⟩:=bF (aD h);exact⟨rfl,⟨hx,trivial⟩,rfl,rfl⟩
   ·simp at h
  |_=>simp[EZ]at h
 |b=>
  cases x with
  |b n=>obtain⟨rfl,rfl⟩:=bF (aD h);exact⟨rfl,⟨hx,trivial⟩,rfl,rfl⟩
  |_=>simp[EZ]at h
 |s=>
  cases x with
  |s n=>obtain⟨rfl,rfl⟩:=bF (aD h);exact⟨rfl,hx,rfl,rfl⟩
  |_=>simp[EZ]at h
 |l=>simp[plain]at hp
 |o=>simp[plain]at hp
theorem zx{ex:aU}:∀{ks:ax Ck} {xs:ax AV} {cs:ax CV} {ws:ax (aG×dS)} (hp:plain ks=aj) (h:(we ex ks xs).val σ=ah (cs,ws)),cs.map CV.kd=ks/\cs.length=xs.length/\ws=[]/\
  ∀(vals:cX a7),eQ E w c vals xs->∀(q:aG) (x:CV),cs[q]? =ah x->vals[q]? =ah (L5 x)/\sI x=ao/\okC x:=by
 intro ks;induction ks with
 |nil=>
  intro xs cs ws hp h;cases xs with
  |nil=>obtain⟨rfl,rfl⟩:=bF (aD h);exact⟨rfl,rfl,rfl,λ_ _ q x hq=>by simp at hq⟩
  |cons=>simp[we]at h
 |cons k ks ih=>
  intro xs cs ws hp h;cases xs with
  |nil=>simp[we]at h
  |cons x xs=>
   obtain⟨⟨cv,w1⟩,h1,h⟩:=Rd.bind_some h;obtain⟨⟨cr,w2⟩,h2,h⟩:=Rd.bind_some h;obtain⟨rfl,rfl⟩:=bF (aD h);simp only[plain,mv,aJ]at hp;have Lk:plain [k]=true:=by simp[plain,hp.1]
   have hp2:plain ks=true:=hp.2;obtain⟨i1,i2,i3,i4⟩:=ih hp2 h2;have e1:=λu (hu:dN E w c x u)=>wc Lk h1 hu;have V2:cv.kd=k/\w1=[]:=by
    cases k<;>cases x<;>simp[EZ,plain]at h1 Lk<;>first
     |(obtain⟨rfl,rfl⟩:=h1;exact⟨rfl,rfl⟩)
     |(split at h1<;>simp at h1;rename_i hk;subst hk;obtain⟨rfl,rfl⟩:=h1;exact⟨rfl,rfl⟩)
   refine⟨by simp[V2.1,i1],by simp[i2],by rw[V2.2,i3];rfl,λvals hv q y hq=> ?_⟩
   cases q with
   |zero=>cases hq;obtain⟨u,hu,ha⟩:=hv.2 0 x rfl;obtain⟨_,⟨rfl,ho⟩,hl,_⟩:=e1 u ha;exact⟨hu,hl,ho⟩
   |succ q=>
    have Ov:eQ E w c (vals.extract 1 vals.size) xs:=by
     refine⟨by simp;have:=hv.1;simp at this;omega,λj b hj=> ?_⟩
     obtain⟨u,hu,hb⟩:=hv.2 (j+1) b hj;refine⟨u, ?_,hb⟩
     have:=(c8.1 hu).1;rw[dF,ba (by omega),ia];exact hu
    obtain⟨r1,r2⟩:=i4 _ Ov q y hq;refine⟨?_,r2⟩
    rw[dF]at r1;split at r1
    ·rw[ia];exact r1
    ·cases r1
theorem UH{s:Sem Unit}{w':bw}(hr:s.run P w= .ok () w'):(do s;pure Next.skip:Sem Next).run P w= .ok .skip w':=by simp only[bV,hr,bk,cy]
theorem Ca:∀{ys:ax AV} {q0 q n2:aG},wy q0 ys=ah (q,n2)->q0<=q/\ys[q-q0]? =ah (.own n2)/\∀(k m:aG),ys[k]? =ah (.own m)->k=q-q0:=by
 have T7:∀{ys:ax AV},FR ys=aj->∀(k m:aG),ys[k]? ≠ah (.own m):=by
  intro ys;induction ys with
  |nil=>intro h k m h;simp at h
  |cons y ys ih=>
   intro h k m hk;cases y with
   |own n=>cases h
   |_=>
    cases k with
    |zero=>cases hk
    |succ k=>exact ih (by simpa [FR]using h) k m hk
 intro ys;induction ys with
 |nil=>intro q0 q n2 h;cases h
 |cons y ys ih=>
  intro q0 q n2 h;have step:wy (q0+1) ys=ah (q,n2)->(∀m,y≠ .own m)->q0<=q/\(y::ys)[q-q0]? =ah (.own n2)/\∀(k m:aG),(y::ys)[k]? =ah (.own m)->k=q-q0:=by
   intro h hy;obtain⟨h1,h2,h3⟩:=ih h;have e:q-q0=(q-(q0+1))+1:=by omega
   refine⟨by omega,by rw[e,dr];exact h2,λk m hk=> ?_⟩
   cases k with
   |zero=>cases hk;exact b_ rfl (hy m)
   |succ k=>have:=h3 k m hk;omega
  cases y with
  |own n=>
   unfold wy at h;cases h1:FR ys with
   |false=>rw[h1]at h;cases h
   |true=>
    rw[h1]at h;cases h;refine⟨bR _,by rw[Ye];rfl,λk m hk=> ?_⟩
    cases k with
    |zero=>omega
    |succ k=>exact b_ hk (T7 h1 k m)
  |_=>exact step (by simpa [wy]using h) (λm h=>by cases h)
theorem Sj{E:eL}{w:bw}{c:dZ}{e2 n2:aG}{zs:Row}:∀{ks:ax Ck} {ys:ax AV} {cs:ax CV},Bg e2 n2 zs ks ys=ah cs->cs.map CV.kd=ks/\cs.length=ys.length/\
  ∀(q:aG) (x:CV),cs[q]? =ah x->∃y,ys[q]? =ah y/\((sI x=ao/\∀u,dN E w c y u->Sc u x)\/(x= .l e2 zs/\y= .own n2)):=by
 intro ks;induction ks with
 |nil=>
  intro ys cs h;cases ys with
  |nil=>cases h;exact⟨rfl,rfl,λq x h=>by simp at h⟩
  |cons=>cases h
 |cons k ks ih=>
  intro ys cs h
  have go:∀{y:AV} {r:ax AV} {x:CV},ys=y::r->(Bg e2 n2 zs ks r).map (x:: ·)=ah cs->x.kd=k->((sI x=ao/\∀u,dN E w c y u->Sc u x)\/(x= .l e2 zs/\y= .own n2))->
    cs.map CV.kd=k::ks/\cs.length=ys.length/\∀(q:aG) (x:CV),cs[q]? =ah x->∃y,ys[q]? =ah y/\((sI x=ao/\∀u,dN E w c y u->Sc u x)\/(x= .l e2 zs/\y= .own n2)):=by
   intro y r x hy hm hk hx
   subst hy
   cases hr:Bg e2 n2 zs ks r with
   |none=>rw[hr]at hm;cases hm
   |some cr=>
    rw[hr]at hm;cases hm;obtain⟨i1,i2,i3⟩:=ih hr;refine⟨by simp[hk,i1],by simp[i2],λq z hq=> ?_⟩
    cases q with
    |zero=>cases hq;exact⟨y,rfl,hx⟩
    |succ q=>exact i3 q z hq
  cases ys with
  |nil=>cases k<;>cases h
  |cons y r=>
   cases k with
   |i k=>
    cases y with
    |i k' n=>
     unfold Bg at h;split at h
     ·rename_i hk;subst hk;exact go rfl h rfl (.inl ⟨rfl,λu hu=>⟨hu,trivial⟩⟩)
     ·cases h
    |_=>cases h
   |b=>
    cases y with
    |b n=>exact go rfl h rfl (.inl ⟨rfl,λu hu=>⟨hu,trivial⟩⟩)
    |_=>cases h
   |s=>
    cases y with
    |s n=>exact go rfl h rfl (.inl ⟨rfl,λu hu=>hu⟩)
    |_=>cases h
   |l e=>
    cases y with
    |own n=>
     unfold Bg at h;cases hb:(bA e e2&&bA n n2)with
     |false=>rw[hb]at h;cases h
     |true=>rw[hb,aw]at h;simp only[aJ]at hb;have:=aN hb.1;subst this;have:=aN hb.2;subst this;exact go rfl h rfl (.inr ⟨rfl,rfl⟩)
    |_=>cases h
   |o=>cases y<;>cases h
theorem K8(hok:Ok E σ w c)(dg:eC E σ a w c)(hd:∀d,o.dst=ah d->d<a.tmps.size){n i j:aG}{ys:ax AV}{ws:ax (aG×dS)}{X:cX a7}(hF:tX n=aj)(hi:i<(c.P n).n)(h:(D6 E n i j ys).val σ=ah ws)(nC:eQ E w c X ys)(me:0<ys.length)
  (exec:∀(cur:cX a7),o4 w (c.P n).blk cur->(c.P n).off+i*(c.P n).sz+j+X.size<=cur.size->(execOp a.eval o).run P w= .ok .skip (w.setRow (c.P n).blk (iC cur ((c.P n).off+i*(c.P n).sz+j) X.toList))):fO P E σ a w c o (ws++dw o .un):=by
 unfold D6 at h;obtain⟨ob,hg0,h⟩:=Rd.bind_some h;have hg:=cW hg0;split at h
 ·rename_i el xs;obtain⟨te,h6,h⟩:=Rd.bind_some h;have h6:=dz h6;split at h
  ·rename_i q n2 Fx;cases hb0:bA n n2 with
   |true=>rw[hb0]at h;simp at h
   |false=>
    rw[hb0,az]at h;have g_:n≠n2:=λe=>by subst e;rw[Nat.beq_refl]at hb0;cases hb0
    obtain⟨ob2,ajU,h⟩:=Rd.bind_some h;have Vt:=cW ajU;split at h
    ·rename_i e2 zs;obtain⟨t2,h7,h⟩:=Rd.bind_some h;have h7:=dz h7;obtain⟨h8,h⟩:=b9 h;simp only[aJ]at h8;obtain⟨sR,hle⟩:=h8;have hle:=cf hle;split at h
     ·rename_i cs AL;obtain rfl:=aD h;obtain⟨m1,m2,m3⟩:=Sj (E:=E) (w:=w) (c:=c) AL;obtain⟨_,_,hu⟩:=Ca Fx;rw[Eh]at hu;obtain⟨⟨t1,q1,hsz,jI⟩,fN,g6⟩:=hok.obj n _ hg;obtain rfl:te=t1:=aD (h6.symm.trans q1);obtain⟨⟨t3,q3,HF,zR⟩,lM,_⟩:=hok.obj n2 _ Vt;obtain rfl:t2=t3:=aD (h7.symm.trans q3);have jB:j+cs.length<=te.ks.length:=by rw[m2];exact hle
      have Y_:cs.map CV.kd=(te.ks.drop j).take cs.length:=by rw[m1,m2]
      have j_:i<xs.length:=by rw[<-fN.n];exact hi
      obtain⟨iq,vals,hb⟩:=fN.pos hi;have HC:=jP jI;have pk:=sg jI Y_ jB j_;have zM:=jP pk;have same:∀i' j',fC (eN xs i j cs) i' j'->fC xs i' j':=λi' j' hx=>(HC i' j').2 (by have:=(zM i' j').1 hx;rwa[iQ]at this);have GD:∀y∈xs,y.length=(c.P n).sz:=λy hy=>by rw[hsz,<-jI y hy];simp
      let w':=w.setRow (c.P n).blk (iC vals ((c.P n).off+i*(c.P n).sz+j) X.toList);have nW:∀b,b≠(c.P n).blk->w'.heap[b]? =w.heap[b]? :=λb hb=>setRow_other w _ b _ hb;have amn:∀i j,¬fC zs i j:=by rintro i j ⟨y,x,h1,h2,h3⟩;rw[g9 sR (zR y (aM h1)) h2]at h3;cases h3
      have Ud:(c.P n2).nil=ao->eI c n2 (.row e2 aj zs) (c.P n2).blk:=λhn=> .inl ⟨hn,rfl⟩;have Ae:eI c n (.row el aj xs) (c.P n).blk:= .inl ⟨iq,rfl⟩;have adf:(c.P n2).nil=ao->(c.P n2).blk≠(c.P n).blk:=λhn he=>g_ (hok.sep n _ n2 _ _ hg Vt Ae (by rw[<-he];exact Ud hn));let c':dZ:=⟨c.P,λm i' j'=>if m=n/\i'=i/\j'=j+q then c.P n2 else c.G m i' j',c.K⟩
      have hG1:c'.G n i (j+q)=c.P n2:=ba ⟨rfl,rfl,rfl⟩;have hG2:∀i' j',¬(i'=i/\j'=j+q)->c'.G n i' j'=c.G n i' j':=λi' j' h=>a_ (λe=>h ⟨e.2.1,e.2.2⟩);have hG3:∀m,m≠n->c'.G m=c.G m:=λm hm=>by funext i' j';exact a_ (λe=>hm e.1)
      have S4:∀i' j',fC (eN xs i j cs) i' j'->(c'.G n i' j').nil=ao->(i'=i/\j'=j+q/\(c.P n2).nil=ao/\(c'.G n i' j').blk=(c.P n2).blk)\/(¬(i'=i/\j'=j+q)/\(c.G n i' j').nil=ao/\(c'.G n i' j').blk=(c.G n i' j').blk/\eI c n (.row el aj xs) (c.G n i' j').blk):=by
       intro i' j' hh hn;by_cases he:i'=i/\j'=j+q
       ·obtain⟨rfl,rfl⟩:=he;rw[hG1]at hn⊢;exact .inl ⟨rfl,rfl,hn,rfl⟩
       ·rw[hG2 i' j' he]at hn⊢;exact .inr ⟨he,hn,rfl, .inr ⟨rfl,i',j',same i' j' hh,hn,rfl⟩⟩
      obtain⟨mD,uH⟩:=ij.aea (R':=λi1 j1 u1 x1=>if aj=aj then XC E w' (c'.G n) i1 j1 u1 x1 else cK E w' c'.K u1 x1) fN hb GD (i:=i) (j:=j) (cs:=cs) (vs:=X.toList) hi (by rw[hsz];exact jB) (by rw[dm,nC.1,m2])
       (λk x hk=>by
        obtain⟨y,hy,hxy⟩:=m3 k x hk;obtain⟨u,hu1,hu2⟩:=nC.2 k y hy;refine⟨u,by rw[cz];exact hu1, ?_⟩
        rw[ba rfl];rcases hxy with ⟨hl,hsc⟩|⟨rfl,rfl⟩
        ·exact u9 hl (hsc u hu2)
        ·have tw:k=q:=hu k n2 hy;subst tw;have hu2:u=mb (c.P n2):=hu2;refine⟨by rw[hG1];exact hu2,t2,h7,sR,by rw[hG1];exact HF,zR, ?_⟩
         rw[hG1];exact lM.frame (λhn=>nW _ (adf hn)) (λi1 j1 y1 x1 u1 g1 g2 hr=>by rw[ba rfl]at hr;exact vk hr (g9 sR (zR y1 (aM g1)) g2)))
       (λi1 y1 j1 x1 u1 h1 h2 akn hr=>by
        rw[ba rfl]at hr⊢;have GC:XC E w' (c.G n) i1 j1 u1 x1:=hr.frame (λhl hn=>nW _ ((g6 rfl).out i1 j1 ⟨y1,x1,h1,h2,hl⟩ hn iq));have akb:¬(i1=i/\j1=j+q):=by
         rintro ⟨rfl,rfl⟩;have hq:q<cs.length:=by obtain⟨_,hq,_⟩:=Ca Fx;rw[Eh]at hq;rw[m2];exact(aP.1 hq).1
         rcases akn with h|h
         ·exact h rfl
         ·exact h ⟨by omega,by omega⟩
        cases x1 with
        |l ee zz=>obtain⟨r1,r2⟩:=GC;unfold XC;rw[hG2 i1 j1 akb];exact⟨r1,r2⟩
        |i=>exact GC
        |b=>exact GC
        |s=>exact GC)
      have hr:=exec vals hb (by rw[dm]at mD;exact mD);let σ1:=nE (nE σ (cG n) (.o (.row el aj (eN xs i j cs)))) (cG n2) (.o .dead);obtain⟨s1,s2,s3⟩:=oF σ1 o .un;have key:∀m,wr σ1 (dw o .un) (cG m)=if m=n2 then .o .dead else if m=n then .o (.row el aj (eN xs i j cs))else σ (cG m):=λm=>by rw[s3];show(nE (nE σ (cG n) (.o (.row el aj (eN xs i j cs)))) (cG n2) (.o .dead)) (cG m)=_;rw[nq,nq]
      have Oj:∀m,σ (cG m)≠ .iN->wr σ1 (dw o .un) (cG m)≠ .iN:=λm hm=>by rw[key];split;simp;split;simp;exact hm
      have hA:oH σ c c':=λm _=>⟨rfl,λhf=>hG3 m (λe=>by subst e;rw[hF]at hf;cases hf)⟩
      have hCh:∀m,m=n\/m=n2->∃ob,σ (cG m)= .o ob:=by rintro m (rfl|rfl);exact⟨_,hg⟩;exact⟨_,Vt⟩
      have gz:∀m x,(m=n\/m=n2)->wr σ1 (dw o .un) (cG m)= .o x->(m=n2/\x= .dead)\/(m=n/\x= .row el aj (eN xs i j cs)):=by
       intro m x hm hx;rw[key]at hx;by_cases Sh:m=n2
       ·rw[ba Sh]at hx;cases hx;exact .inl ⟨Sh,rfl⟩
       ·rw[a_ Sh,ba (hm.resolve_right Sh)]at hx;cases hx;exact .inr ⟨hm.resolve_right Sh,rfl⟩
      have hh:=hok.p8 (σ':=wr σ1 (dw o .un)) (w':=w') (c':=c') (λm=>m=n\/m=n2) (λm hm=>by rw[key,a_ (λe=>hm (.inr e)),a_ (λe=>hm (.inl e))]) Oj hA (λm hm _=>hG3 m (λe=>hm (.inl e)))
       (λb _ Oi=>nW b (λe=>Oi ⟨n,_, .inl rfl,hg,by rw[e];exact Ae⟩)) (by simp[w',iZ]) (λ_ h=>h) (λ_ h=> .inl h) (λb hb=>gC (hok.lt b hb) (by simp[w',iZ]))
       (λm x hm hx=>by
        rcases gz m x hm hx with ⟨rfl,rfl⟩|⟨rfl,rfl⟩
        ·trivial
        ·refine⟨⟨te,q1,hsz,pk⟩,uH,λ_=>⟨λi1 j1 hh hn _ he=> ?_,λi1 j1 i2 j2 h1 h2 n1 n2' he=> ?_⟩⟩
         ·rcases S4 i1 j1 hh hn with ⟨_,_,g1,g2⟩|⟨_,g1,g2,g3⟩
          ·exact adf g1 (g2.symm.trans he)
          ·exact(g6 rfl).out i1 j1 (same i1 j1 hh) g1 iq (g2.symm.trans he)
         ·rcases S4 i1 j1 h1 n1 with ⟨a1,a2,a3,a4⟩|⟨a1,a2,a3,a4⟩<;>rcases S4 i2 j2 h2 n2' with ⟨b1,b2,b3,b4⟩|⟨b1,b2,b3,b4⟩
          ·exact⟨a1.trans b1.symm,a2.trans b2.symm⟩
          ·exfalso;exact g_ (hok.sep m _ n2 _ _ hg Vt b4 (by rw[<-b3,<-he,a4];exact Ud a3))
          ·exfalso;exact g_ (hok.sep m _ n2 _ _ hg Vt a4 (by rw[<-a3,he,b4];exact Ud b3))
          ·exact(g6 rfl).one i1 j1 i2 j2 (same i1 j1 h1) (same i2 j2 h2) a2 b2 (a3.symm.trans (he.trans b3)))
       (λm x b hm hx hf=>by
        rcases gz m x hm hx with ⟨rfl,rfl⟩|⟨rfl,rfl⟩
        ·exact hf.elim
        ·have acy:ja (λk=>k=m\/k=n2) σ c b:=by
          rcases hf with ⟨_,rfl⟩|⟨_,i1,j1,hh,hn,rfl⟩
          ·exact⟨m,_, .inl rfl,hg,Ae⟩
          ·rcases S4 i1 j1 hh hn with ⟨_,_,g1,g2⟩|⟨_,g1,g2,g3⟩
           ·rw[g2];exact⟨n2,_, .inr rfl,Vt,Ud g1⟩
           ·rw[g2];exact⟨m,_, .inl rfl,hg,g3⟩
         exact⟨.inl acy,hok.HU acy.own⟩)
       (λm x m' x' b hm uJ hx nX hf uI=>by
        rcases gz m x hm hx with ⟨rfl,rfl⟩|⟨rfl,rfl⟩
        ·exact hf.elim
        ·rcases gz m' x' uJ nX with ⟨rfl,rfl⟩|⟨rfl,rfl⟩
         ·exact uI.elim
         ·rfl)
       (λm bs hm hx=>by rcases gz m _ hm hx with ⟨_,h⟩|⟨_,h⟩<;>cases h) rfl rfl rfl
      intro K Q hK;refine tR hr (hK undef w' c' hh.1 ?_ hh.2 hA);refine dg.p8 hok hh.2 hA Oj o undef (λk hk=>by rw[s1 k hk];show slot (nE (nE σ (cG n) (.o (.row el aj (eN xs i j cs)))) (cG n2) (.o .dead)) k=_;rw[gO,gO]) (λd ho=>⟨hd d ho, ?_, ?_⟩)
      ·rw[s2 d ho];trivial
      ·rw[s2 d ho];intro k hk;simp[b8]at hk
     ·simp at h
    ·simp at h
  ·simp at h
 ·simp at h
theorem S_{ys:ax AV}{n i j lo hi:aG}(h:S9 ys=ah (n,i,j,lo,hi)):ys=[.iv n i j lo hi]:=by
 unfold S9 at h;split at h
 ·cases h;rfl
 ·cases h
theorem Od(hok:Ok E σ w c)(dg:eC E σ a w c)(hd:∀d,o.dst=ah d->d<a.tmps.size){n i j i2 j2 lo Dy:aG}{ws:ax (aG×dS)}{X:cX a7}(hF:tX n=ao)(hi:i<(c.P n).n)(h:(R_ E n i j i2 j2 lo Dy).val σ=ah ws)(nC:eQ E w c X [.iv n i2 j2 lo Dy])
  (exec:∀(cur:cX a7),o4 w (c.P n).blk cur->(c.P n).off+i*(c.P n).sz+j+X.size<=cur.size->(execOp a.eval o).run P w= .ok .skip (w.setRow (c.P n).blk (iC cur ((c.P n).off+i*(c.P n).sz+j) X.toList))):fO P E σ a w c o (ws++dw o .un):=by
 unfold R_ at h;obtain⟨ob,hg0,h⟩:=Rd.bind_some h;have hg:=cW hg0;split at h
 ·rename_i el xs;obtain⟨te,h6,h⟩:=Rd.bind_some h;have h6:=dz h6;split at h
  ·rename_i e2 e3 hk wW;obtain⟨hb0,h9⟩:=b9 h;clear h;have:=aN hb0;subst this;obtain rfl:=aD h9;obtain⟨u,hu,⟨⟨Bj,hvw⟩,_⟩⟩:=nC.2 0 _ rfl;obtain⟨⟨t1,q1,hsz,jI⟩,fN,g6⟩:=hok.obj n _ hg;obtain rfl:te=t1:=aD (h6.symm.trans q1);obtain⟨zs,y,t3,r1,r2,r3,r4,r5,r6,r7,_⟩:=uM hok hg h6 wW Bj;rw[ea r1 r2];simp only[kU];generalize AL:[CV.l e2 (dR zs lo Dy)]=cs;have aco:cs.length=1:=by rw[<-AL];rfl
   have hjk:j<te.ks.length:=(aP.1 hk).1;have jB:j+cs.length<=te.ks.length:=by omega
   have Y_:cs.map CV.kd=(te.ks.drop j).take cs.length:=by rw[aco,List.take_one,Vb,hk,<-AL];rfl
   have j_:i<xs.length:=by rw[<-fN.n];exact hi
   obtain⟨iq,vals,hb⟩:=fN.pos hi;have pk:=sg jI Y_ jB j_;have GD:∀y∈xs,y.length=(c.P n).sz:=λy hy=>by rw[hsz,<-jI y hy];simp
   let w':=w.setRow (c.P n).blk (iC vals ((c.P n).off+i*(c.P n).sz+j) X.toList);have nW:∀b,b≠(c.P n).blk->w'.heap[b]? =w.heap[b]? :=λb hb=>setRow_other w _ b _ hb;have Ae:eI c n (.row el aj xs) (c.P n).blk:= .inl ⟨iq,rfl⟩;let K':aG->Prop:=λb=>c.K b\/∃i1 j1,fC xs i1 j1/\(c.G n i1 j1).nil=ao/\b=(c.G n i1 j1).blk;let c':dZ:=⟨c.P,c.G,K'⟩
   have YW:∀b,K' b->b≠(c.P n).blk:=by
    rintro b (hb|⟨i1,j1,hh,hn,rfl⟩) he
    ·exact hok.kk n _ _ hg Ae (he▸hb)
    ·exact(g6 rfl).out i1 j1 hh hn iq he
   have hold:∀(i1:aG) (y1:ax CV) (j1:aG) (x1:CV) (u1:a7),xs[i1]? =ah y1->y1[j1]? =ah x1->XC E w (c.G n) i1 j1 u1 x1->cK E w' K' u1 x1:=by intro i1 y1 j1 x1 u1 h1 h2 hr;have hh:cK E w K' u1 x1:=rN hr (λhl hn=> .inr ⟨i1,j1,⟨y1,x1,h1,h2,hl⟩,hn,rfl⟩);exact hh.frame (λb hb=>nW b (YW b hb)) (λ_ h=>h)
   have zO:cK E w' K' u (.l e2 (dR zs lo Dy)):=by
    have hh:cK E w K' (mb (c.G n i2 j2)) (.l e2 zs):=
     mH r3 r5 r6 (r7.frame (λ_=>rfl) (λi j y x u hi hj hr=>iX (g9 r4 (r6 y (aM hi)) hj) hr)) (λhn=> .inr ⟨i2,j2,⟨y,_,r1,r2,rfl⟩,hn,rfl⟩)
    exact(zQ r3 hh r7.n r5 hvw).frame (λb hb=>nW b (YW b hb)) (λ_ h=>h)
   obtain⟨mD,uH⟩:=ij.put (R':=λi1 j1 u1 x1=>if ao=aj then XC E w' (c'.G n) i1 j1 u1 x1 else cK E w' c'.K u1 x1) fN hb GD (i:=i) (j:=j) (cs:=cs) (vs:=X.toList) hi (by rw[hsz];exact jB) (by rw[dm,nC.1,aco];rfl)
    (λk x hk=>by
     rw[<-AL]at hk;cases k with
     |zero=>
      cases hk;refine⟨u,by rw[cz];exact hu, ?_⟩
      rw[a_ (by simp)];exact zO
     |succ k=>simp at hk)
    (λi1 y1 j1 x1 u1 h1 h2 hr=>by rw[ba rfl]at hr;rw[a_ (by simp)];exact hold i1 y1 j1 x1 u1 h1 h2 hr)
   have hr:=exec vals hb (by rw[dm]at mD;exact mD);let σ1:=nE σ (cG n) (.o (.row el ao (eN xs i j cs)));obtain⟨s1,s2,s3⟩:=oF σ1 o .un;have key:∀m,wr σ1 (dw o .un) (cG m)=if m=n then .o (.row el ao (eN xs i j cs))else σ (cG m):=λm=>by rw[s3];show(nE σ (cG n) (.o (.row el ao (eN xs i j cs)))) (cG m)=_;rw[nq]
   have Oj:∀m,σ (cG m)≠ .iN->wr σ1 (dw o .un) (cG m)≠ .iN:=λm hm=>by rw[key];split;simp;exact hm
   have hA:oH σ c c':=λm _=>⟨rfl,λ_=>rfl⟩
   have gz:∀m x,m=n->wr σ1 (dw o .un) (cG m)= .o x->x= .row el ao (eN xs i j cs):=by intro m x hm hx;rw[key,ba hm]at hx;cases hx;rfl
   have hh:=hok.p8 (σ':=wr σ1 (dw o .un)) (w':=w') (c':=c') (λm=>m=n) (λm hm=>by rw[key,a_ hm]) Oj hA (λm hm _=>rfl)
    (λb _ Oi=>nW b (λe=>Oi ⟨n,_,rfl,hg,by rw[e];exact Ae⟩)) (by simp[w',iZ]) (λ_ h=> .inl h)
    (λb hb=>by
     rcases hb with hb|⟨i1,j1,hh,hn,rfl⟩
     ·exact .inl hb
     ·exact .inr (.inl ⟨n,_,rfl,hg, .inr ⟨rfl,i1,j1,hh,hn,rfl⟩⟩))
    (λb hb=>by
     have jj:b<w.heap.size:=by
      rcases hb with hb|⟨i1,j1,hh,hn,rfl⟩
      ·exact hok.lt b hb
      ·exact vq.lt hok ⟨n,_,hg, .inr ⟨rfl,i1,j1,hh,hn,rfl⟩⟩
     exact gC jj (by simp[w',iZ]))
    (λm x hm hx=>by obtain rfl:=gz m x hm hx;subst hm;exact⟨⟨te,q1,hsz,pk⟩,uH,λh=>by cases h⟩)
    (λm x b hm hx hf=>by
     obtain rfl:=gz m x hm hx;subst hm;rcases hf with ⟨_,rfl⟩|⟨hx,_⟩
     ·exact⟨.inl ⟨m,_,rfl,hg,Ae⟩,λhk=>YW _ hk rfl⟩
     ·cases hx)
    (λm x m' x' b hm uJ hx nX hf uI=>by rw[hm,uJ])
    (λm bs hm hx=>by have:=gz m _ hm hx;cases this) rfl rfl rfl
   intro K Q hK;refine tR hr (hK undef w' c' hh.1 ?_ hh.2 hA);refine dg.p8 hok hh.2 hA Oj o undef (λk hk=>by rw[s1 k hk];show slot (nE σ (cG n) (.o (.row el ao (eN xs i j cs)))) k=_;rw[gO]) (λd ho=>⟨hd d ho, ?_, ?_⟩)
   ·rw[s2 d ho];trivial
   ·rw[s2 d ho];intro k hk;simp[b8]at hk
  ·simp at h
 ·simp at h
theorem Py(hE:dP P E)(hok:Ok E σ w c)(dg:eC E σ a w c)(hd:∀d,o.dst=ah d->d<a.tmps.size){t:aG}{p x:cY}(ho:o.op= .store t p x)(h:(kH E nm o).val σ=ah e):fO P E σ a w c o e.ws:=by
 simp only[kH,ho]at h;obtain⟨ti,h1,h⟩:=Rd.bind_some h;obtain⟨pv,h2,h⟩:=Rd.bind_some h;obtain⟨xv,h3,h⟩:=Rd.bind_some h;have h1:=dz h1;obtain⟨ep,kp⟩:=h_ dg h2;obtain⟨ex,kx⟩:=kR dg h3;cases xv with
 |v g ys=>
  obtain⟨h4,h⟩:=b9 h;have h4:=aN h4;obtain⟨ws,h5,h⟩:=Rd.bind_some h;obtain rfl:=aD h;have nC:=o_.cells ex;have AL:(a.eval x).cells.size=ti.ks.length:=by rw[nC.1,h4]
  have ky:∀b∈ys,iu σ b:=λb hb n hn=>kx n (bz.2 ⟨b,hb,hn⟩);obtain⟨_,_,_,_,me,_⟩:=hE.info t ti h1;have exec:∀{b of:aG} {cur:cX a7},a.eval p= .pointer (ah (ad b of))->o4 w b cur->of+(a.eval x).cells.size<=cur.size->(execOp a.eval o).run P w= .ok .skip (w.setRow b (iC cur of (a.eval x).cells.toList)):=by intro b of cur hp hb hf;unfold execOp;rw[ho];refine UH ?_;rw[hp];exact Gd w hE h1 AL hb hf nC.one
  have hkK:∀(b:aG) (new:cX a7),vq σ c b->∀b',c.K b'->(w.setRow b new).heap[b']? =w.heap[b']? :=by intro b new hb b' hk;exact setRow_other w b b' new (λe=>by subst e;exact hok.HU hb hk)
  have h50:(D7 E pv ys).val σ=ah ws\/(∃n i j,pv= .rp n i j/\tX n=aj/\(D6 E n i j ys).val σ=ah ws)\/(∃n i j i2 j2 lo hi,pv= .rp n i j/\tX n=ao/\ys=[.iv n i2 j2 lo hi]/\(R_ E n i j i2 j2 lo hi).val σ=ah ws):=by
   cases pv with
   |rp n i j=>
    unfold QK at h5;simp only at h5;cases hF:tX n with
    |true=>rw[hF,aw]at h5;exact .inr (.inl ⟨n,i,j,rfl,hF,h5⟩)
    |false=>
     rw[hF,az]at h5;cases hv:S9 ys with
     |none=>rw[hv]at h5;exact .inl h5
     |some q=>obtain⟨n2,i2,j2,lo,hi⟩:=q;rw[hv]at h5;obtain⟨hb,h9⟩:=b9 h5;clear h5;have:=aN hb;subst this;exact .inr (.inr ⟨n,i,j,i2,j2,lo,hi,rfl,hF,S_ hv,h9⟩)
   |_=>exact .inl h5
  clear h5;rcases h50 with h5|⟨n,i,j,rfl,hF,h5⟩|⟨n,i,j,i2,j2,lo,hi,rfl,hF,rfl,h5⟩
  rotate_left
  ·obtain⟨hpi,B4⟩:=ep;exact K8 hok dg hd hF hpi h5 nC (by rw[<-h4]at me;exact me) (λcur hb hf=>exec B4 hb hf)
  ·obtain⟨hpi,B4⟩:=ep;exact Od hok dg hd hF hpi h5 nC (λcur hb hf=>exec B4 hb hf)
  cases pv with
  |bp n j=>
   obtain⟨ob,hg,h5⟩:=Rd.bind_some h5;have hg:=cW hg;cases ob with
   |box xs=>
    obtain⟨h6,h5⟩:=b9 h5;have h6:=cf h6;obtain rfl:=aD h5;obtain⟨cur,hb,hsz,Vq⟩:=hok.obj n _ hg;have tz:vq σ c (c.P n).blk:=⟨n,_,hg,rfl⟩
    have mD:j+(a.eval x).cells.size<=cur.size:=by rw[nC.1,hsz];exact h6
    have acv:j+(a.eval x).cells.toList.length<=cur.size:=by rw[dm];exact mD
    have Y7:=hkK (c.P n).blk (iC cur j (a.eval x).cells.toList) tz;refine rj hok dg hd hg (ob':= .box (iB xs j ys)) ?_ (λb hb=>hb) (λzs hz b hb=> ?_) (s:= .un) trivial (λn hn=>by simp[b8]at hn) (λb hb Mm=>setRow_other w _ b _ (λe=>Mm e)) (by simp[iZ]) rfl rfl rfl (.inr ⟨exec ep hb mD,rfl⟩)
    ·have:=(eQ.put (E:=E) (w:=w) (c:=c) ⟨hsz,Vq⟩ nC h6)
     refine⟨_,hb.setRow (iY acv),this.1,λq b hq=> ?_⟩
     obtain⟨u,hu,hub⟩:=this.2 q b hq;exact⟨u,hu,hub.frame Y7 (λ_ h=>h) (λ_ _=>⟨rfl,rfl⟩)⟩
    ·cases hz;rcases zV hb with hb|hb
     ·exact hok.kn n xs hg b hb
     ·exact ky b hb
   |_=>simp at h5
  |rp n i j=>
   obtain⟨ob,hg,h5⟩:=Rd.bind_some h5;have hg:=cW hg;cases ob with
   |row el xS xs=>
    obtain⟨te,h6,h5⟩:=Rd.bind_some h5;have h6:=dz h6;obtain⟨h7,h5⟩:=b9 h5;obtain⟨⟨cs,w2⟩,h8,h5⟩:=Rd.bind_some h5;obtain rfl:=aD h5;obtain⟨m1,m2,_,m3⟩:=zx (E:=E) (w:=w) (c:=c) h7 h8;obtain⟨⟨t2,q1,hsz,jI⟩,fN,g6⟩:=hok.obj n _ hg;obtain rfl:te=t2:=aD (h6.symm.trans q1);obtain⟨hi,B4⟩:=ep;have hlk:cs.length=((te.ks.drop j).take ys.length).length:=by rw[<-m1];simp
    have jB:j+cs.length<=te.ks.length:=by
     rw[eg,il]at hlk;have:0<cs.length:=by rw[m2,h4];exact me
     omega
    have Y_:cs.map CV.kd=(te.ks.drop j).take cs.length:=by rw[m1,m2]
    have j_:i<xs.length:=by rw[<-fN.n];exact hi
    have iq:(c.P n).nil=false:=by
     cases hn:(c.P n).nil with
     |false=>rfl
     |true=>have:=(fN.nil hn).1;subst this;simp at j_
    have tz:vq σ c (c.P n).blk:=⟨n,_,hg, .inl ⟨iq,rfl⟩⟩
    have Y7:=λnew=>hkK (c.P n).blk new tz;have HC:=jP jI;have pk:=sg jI Y_ jB j_;have zM:=jP pk;have same:∀i' j',fC (eN xs i j cs) i' j'->fC xs i' j':=λi' j' hx=>(HC i' j').2 (by have:=(zM i' j').1 hx;rwa[iQ]at this);obtain⟨_,vals,hb⟩:=fN.pos hi;have GD:∀y∈xs,y.length=(c.P n).sz:=λy hy=>by rw[hsz,<-jI y hy];simp
    have ajR:=Y7 (iC vals ((c.P n).off+i*(c.P n).sz+j) (a.eval x).cells.toList);have hw:∀b,c.K b->(w.setRow (c.P n).blk (iC vals ((c.P n).off+i*(c.P n).sz+j) (a.eval x).cells.toList)).heap[b]? =w.heap[b]? :=ajR;generalize Jz:w.setRow (c.P n).blk (iC vals ((c.P n).off+i*(c.P n).sz+j) (a.eval x).cells.toList)=w' at hw;have nW:∀b,b≠(c.P n).blk->w'.heap[b]? =w.heap[b]? :=λb hb=>by rw[<-Jz];exact setRow_other w _ b _ hb
    obtain⟨mD,uH⟩:=ij.put (R':=λi1 j1 u1 x1=>if xS=aj then XC E w' (c.G n) i1 j1 u1 x1 else cK E w' c.K u1 x1) fN hb GD (i:=i) (j:=j) (cs:=cs) (vs:=(a.eval x).cells.toList) hi (by rw[hsz];exact jB) (by rw[dm,nC.1,m2])
     (λq y hq=>by
      obtain⟨r1,r2,r3⟩:=m3 _ nC q y hq;refine⟨L5 y,by rw[cz];exact r1, ?_⟩
      split
      ·exact u9 r2 ⟨rfl,r3⟩
      ·exact iX r2 ⟨rfl,r3⟩)
     (λi1 y1 j1 x1 u1 h1 h2 hr=>by
      cases xS with
      |true=>rw[ba rfl]at hr⊢;exact hr.frame (λhl hn=>nW _ ((g6 rfl).out i1 j1 ⟨y1,x1,h1,h2,hl⟩ hn iq))
      |false=>rw[a_ (by simp)]at hr⊢;exact hr.frame hw (λ_ h=>h))
    rw[Jz]at uH;refine rj hok dg hd hg (ob':= .row el xS (eN xs i j cs)) ?_ ?_ (λzs hz=>by cases hz) (s:= .un) trivial (λn hn=>by simp[b8]at hn) (w':=w') (λb hb Mm=>nW b (λe=>Mm (.inl ⟨iq,e⟩))) (by rw[<-Jz];simp[iZ]) (by rw[<-Jz];rfl) (by rw[<-Jz];rfl) (by rw[<-Jz];rfl) (.inr ⟨?_,rfl⟩)
    ·exact⟨⟨te,q1,hsz,pk⟩,uH,λhx=>⟨λi1 j1 hh=>(g6 hx).out i1 j1 (same i1 j1 hh),λi1 j1 i2 j2 h1 h2=>(g6 hx).one i1 j1 i2 j2 (same i1 j1 h1) (same i2 j2 h2)⟩⟩
    ·rintro b (hb|⟨hx,i1,j1,hh,hn⟩)
     ·exact .inl hb
     ·exact .inr ⟨hx,i1,j1,same i1 j1 hh,hn⟩
    ·rw[<-Jz];refine exec B4 hb ?_;rw[dm]at mD;exact mD
   |_=>simp at h5
  |ip n i j i2 j2=>
   obtain⟨ob,hg,h5⟩:=Rd.bind_some h5;have hg:=cW hg;cases ob with
   |row el xS xs=>
    cases xS with
    |false=>simp at h5
    |true=>
    obtain⟨te,h6,h5⟩:=Rd.bind_some h5;have h6:=dz h6;split at h5
    ·rename_i e2 wW;obtain⟨t2,h7,h5⟩:=Rd.bind_some h5;have h7:=dz h7;obtain⟨h8,h5⟩:=b9 h5;obtain⟨⟨cs,w2⟩,h9,h5⟩:=Rd.bind_some h5;obtain rfl:=aD h5;have acN:plain ((t2.ks.drop j2).take ys.length)=true:=bf.2 (λk hk=>bf.1 h8 k (j6 (kh hk)));obtain⟨m1,m2,_,m3⟩:=zx (E:=E) (w:=w) (c:=c) acN h9;obtain⟨⟨hi,Bj,B4⟩,_⟩:=ep;obtain⟨⟨t1,q1,hsz,jI⟩,fN,g6⟩:=hok.obj n _ hg;obtain rfl:te=t1:=aD (h6.symm.trans q1);obtain⟨zs,y,t3,r1,r2,r3,r4,r5,r6,r7,_⟩:=uM hok hg h6 wW hi;obtain rfl:t2=t3:=aD (h7.symm.trans r3);rw[ea r1 r2];simp only[kU];have hlk:cs.length=((t2.ks.drop j2).take ys.length).length:=by rw[<-m1];simp
     have jB:j2+cs.length<=t2.ks.length:=by
      rw[eg,il]at hlk;have:0<cs.length:=by rw[m2,h4];exact me
      omega
     have Y_:cs.map CV.kd=(t2.ks.drop j2).take cs.length:=by rw[m1,m2]
     have ajY:i2<zs.length:=by rw[<-r7.n];exact Bj
     have j_:i<xs.length:=(aP.1 r1).1;obtain⟨zP,vals,hb⟩:=r7.pos Bj;obtain⟨iq,pv,hpb⟩:=fN.pos hi;have Bk:fC xs i j:=⟨y,_,r1,r2,rfl⟩
     have tz:vq σ c (c.G n i j).blk:=⟨n,_,hg, .inr ⟨rfl,i,j,Bk,zP,rfl⟩⟩
     have hw:=hkK (c.G n i j).blk (iC vals ((c.G n i j).off+i2*(c.G n i j).sz+j2) (a.eval x).cells.toList) tz;have Lp:∀y∈zs,y.length=(c.G n i j).sz:=λy hy=>by rw[r5,<-r6 y hy];simp
     obtain⟨mD,uH⟩:=ij.put (R':=λ_ _ u1 x1=>Sc u1 x1) r7 hb Lp (i:=i2) (j:=j2) (cs:=cs) (vs:=(a.eval x).cells.toList) Bj (by rw[r5];exact jB) (by rw[dm,nC.1,m2])
      (λq y hq=>⟨L5 y,by rw[cz];exact(m3 _ nC q y hq).1,rfl,(m3 _ nC q y hq).2.2⟩) (λ_ _ _ _ _ _ _ hr=>hr)
     generalize Jz:w.setRow (c.G n i j).blk (iC vals ((c.G n i j).off+i2*(c.G n i j).sz+j2) (a.eval x).cells.toList)=w' at hw uH;have nW:∀b,b≠(c.G n i j).blk->w'.heap[b]? =w.heap[b]? :=λb hb=>by rw[<-Jz];exact setRow_other w _ b _ hb
     have hjk:j<te.ks.length:=(aP.1 wW).1;have Za:[CV.l e2 (eN zs i2 j2 cs)].map CV.kd=(te.ks.drop j).take [CV.l e2 (eN zs i2 j2 cs)].length:=by rw[bu,List.take_one,Vb,wW];rfl
     have pk:=sg (i:=i) (j:=j) (cs:=[CV.l e2 (eN zs i2 j2 cs)]) jI Za (by simp;omega) j_;have HC:=jP jI;have zM:=jP pk;have same:∀i' j',fC (eN xs i j [CV.l e2 (eN zs i2 j2 cs)]) i' j'->fC xs i' j':=λi' j' hx=>(HC i' j').2 (by have:=(zM i' j').1 hx;rwa[iQ]at this);have Zi:(c.P n).blk≠(c.G n i j).blk:=λe=>(g6 rfl).out i j Bk zP iq e.symm;have lM:ij w' (c.P n) (eN xs i j [CV.l e2 (eN zs i2 j2 cs)]) (λi1 j1 u1 x1=>if aj=aj then XC E w' (c.G n) i1 j1 u1 x1 else cK E w' c.K u1 x1):=by
      obtain⟨vs,k1,k2,k3,k4,k5⟩:=fN.mem iq;refine⟨by rw[iQ];exact fN.n,λhn=>(by rw[iq]at hn;cases hn),λ_=>⟨vs,k1.frame (nW _ Zi),k2,k3,k4,λi1 y1 j1 x1 g1 g2=> ?_⟩⟩
      rw[u_ r1]at g1;simp only[if_true]at k5⊢;by_cases Fs:i1=i
      ·subst Fs;rw[ba rfl]at g1;cases g1;have GD:y.length=te.ks.length:=by rw[<-jI y (aM r1)];simp
       rw[n6 (by simp;omega)]at g2;by_cases hq:j<=j1/\j1<j+[CV.l e2 (eN zs i2 j2 cs)].length
       ·rw[ba hq]at g2;have:j1=j:=by simp at hq;omega
        subst this;simp at g2;subst g2;obtain⟨u,hu,hr⟩:=k5 _ _ _ _ r1 r2;refine⟨u,hu,hr.1,t2,r3,r4,r5,sg r6 Y_ jB ajY,uH⟩
       ·rw[a_ hq]at g2;obtain⟨u,hu,hr⟩:=k5 _ _ _ _ r1 g2;refine⟨u,hu,hr.frame (λhl hn=>nW _ (λe=> ?_))⟩
        have:=((g6 rfl).one _ _ _ _ ⟨y,x1,r1,g2,hl⟩ Bk hn zP e).2;simp at hq;omega
      ·rw[a_ Fs]at g1;obtain⟨u,hu,hr⟩:=k5 _ _ _ _ g1 g2;exact⟨u,hu,hr.frame (λhl hn=>nW _ (λe=>Fs ((g6 rfl).one _ _ _ _ ⟨y1,x1,g1,g2,hl⟩ Bk hn zP e).1))⟩
     refine rj hok dg hd hg (ob':= .row el aj (eN xs i j [CV.l e2 (eN zs i2 j2 cs)])) ?_ ?_ (λzs hz=>by cases hz) (s:= .un) trivial (λn hn=>by simp[b8]at hn) (w':=w') (λb hb Mm=>nW b (λe=>Mm (.inr ⟨rfl,i,j,Bk,zP,e⟩))) (by rw[<-Jz];simp[iZ]) (by rw[<-Jz];rfl) (by rw[<-Jz];rfl) (by rw[<-Jz];rfl) (.inr ⟨?_,rfl⟩)
     ·exact⟨⟨te,q1,hsz,pk⟩,lM,λhx=>⟨λi1 j1 hh=>(g6 hx).out i1 j1 (same i1 j1 hh),λi1 j1 i2 j2 h1 h2=>(g6 hx).one i1 j1 i2 j2 (same i1 j1 h1) (same i2 j2 h2)⟩⟩
     ·rintro b (hb|⟨hx,i1,j1,hh,hn⟩)
      ·exact .inl hb
      ·exact .inr ⟨hx,i1,j1,same i1 j1 hh,hn⟩
     ·rw[<-Jz];refine exec B4 hb ?_;rw[dm]at mD;exact mD
    ·simp at h5
   |_=>simp at h5
  |_=>simp[D7]at h5
 |jf=>simp at h
 |un=>simp at h
end
end Go.FG

namespace Go.FG
theorem LP{ks:ax Ck}(h:plain ks=aj):JO ks=true:=by refine bf.2 (λk hk=> ?_);have:=bf.1 h k hk;cases k<;>first|rfl|exact this
theorem rF{xs:Row}{ks:ax Ck}(h:∀y∈xs,y.map CV.kd=ks)(hp:plain ks=aj){i j:aG}:¬fC xs i j:=by intro hx;obtain⟨_,e,hk⟩:=(jP h i j).1 hx;have:=bf.1 hp _ (aM hk);cases this
theorem EU{xs z:Row}{lo hi:aG}(h1:lo<=hi)(h2:hi<=xs.length)(hz:z.length=hi-lo)(i:aG):(xs.take lo++z++xs.drop hi)[i]? =if lo<=i/\i<hi then z[i-lo]? else xs[i]? :=by
 by_cases a:i<lo
 ·rw[a_ (by omega),bY,dx (by simp;omega),dU,ba a]
 ·by_cases b:i<hi
  ·rw[ba ⟨by omega,b⟩,bY,cT (by simp;omega),dx (by simp;omega)];congr 1;simp;omega
  ·rw[a_ (by omega),bY,cT (by simp;omega),cT (by simp;omega),dK];congr 1;simp;omega
section
variable {P:cC} {E:eL} {σ:St} {a:Act} {w:bw} {c:dZ} {o:eD} {nm:aG} {e:qQ}
theorem L0{t ty el:aG}{z:a7}{inf:AG}(hu:P.underlying t=ah (.slice el))(hi:P.info? el=ah inf)(hz:inf.zero=ah z){b of n cp:aG}{cur:cX a7}(hn:0<n)(hb:o4 w b cur)(hf:of+n*z.cells.size<=cur.size)(h1:∀u∈z.cells.toList,u.oneCell'=aj):
  (nu #[t] ty #[.slice (ah (ad b of)) n cp]).run P w= .ok (.tuple #[]) (w.setRow b (iC cur of (madeCells z.cells (n*z.cells.size)).toList)):=by
 have Ln:=oZ (P:=P) w (o:=of) (vs:=(madeCells z.cells (n*z.cells.size)).toList) hb (by simpa [size_madeCells]using hf) (λv hv=>by
  unfold madeCells at hv;simp only[xD,cD]at hv;obtain⟨q,hq,rfl⟩:=hv;have hq:q<n*z.cells.size:=by simpa using hq
  have hp:0<z.cells.size:=by rcases xK z.cells.size with h|h;(rw[h]at hq;simp at hq);exact h
  have:q%z.cells.size<z.cells.size:=IQ _ hp;rw[getElem!_pos z.cells _ this];exact h1 _ (by simp))
 have hz':(fD z.cells n)=madeCells z.cells (n*z.cells.size):=rfl;cases n with
 |zero=>omega
 |succ n=>simp[nu,run_underlying hu,zeroValue,typeInfo,hi,hz,hz',Ln]
theorem Ar{t ty el:aG}(hu:P.underlying t=ah (.slice el)){A:aA Addr}{cp:aG}:(nu #[t] ty #[.slice A 0 cp]).run P w= .ok (.tuple #[]) w:=by cases A<;>simp[nu,run_underlying hu]
theorem Ps(hE:dP P E)(hok:Ok E σ w c)(dg:eC E σ a w c)(hd:∀d,o.dst=ah d->d<a.tmps.size){cl:Call}(ho:o.op= .call cl)(hb:cl.callee= .builtin .clear)(h:(kH E nm o).val σ=ah e):fO P E σ a w c o e.ws:=by
 simp only[kH,ho,hb]at h;split at h
 ·rename_i x hx;split at h
  ·rename_i t ht;obtain⟨k,hk,h⟩:=Rd.bind_some h;cases k with
   |l el=>
    obtain⟨v,h1,h⟩:=Rd.bind_some h;obtain⟨ws,h2,h⟩:=Rd.bind_some h;obtain rfl:=aD h;obtain⟨ev,kv⟩:=h_ dg h1;have hu:=jD hE hk;have hx:=mi hx;have ht:=mi ht;have exec:∀{w'},(nu #[t] o.type #[a.eval x]).run P w= .ok (.tuple #[]) w'->(execOp a.eval o).run P w= .ok (.value (.tuple #[])) w':=by intro w' hr;obtain⟨cs,AL⟩:=lz (P:=P) (a:=a) (w:=w) ho hb;rw[AL,hx,ht];simp only[builtin,A3,eF,zb];exact gZ hr
    have sv:ic E w c (.jf []) (.tuple #[]):=⟨#[],rfl,rfl,λj agg xs hj=>by simp at hj⟩
    have ai:∀A cp,a.eval x= .slice A 0 cp->(execOp a.eval o).run P w= .ok (.value (.tuple #[])) w:=λA cp hv=>exec (by rw[hv];exact Ar hu);have main:∀(n:aG) (ex:aU) (xs:Row) (lo hi:aG) (te:TI),σ (cG n)= .o (.row el ex xs)->E.ty el=ah te->plain te.ks=aj->tn (c.P n) lo hi (a.eval x)->fO P E σ a w c o ([(cG n, .o (.row el ex (xs.take lo++aR te.ks (hi-lo)++xs.drop hi)))]++dw o (.jf [])):=by
     intro n ex xs lo hi te hg HG sR hv;obtain⟨⟨t2,q1,hsz,jI⟩,fN,g6⟩:=hok.obj n _ hg;obtain rfl:te=t2:=aD (HG.symm.trans q1);obtain⟨v1,v2,v3,v4⟩:=hv;have hle:hi<=xs.length:=by rw[<-fN.n];exact v2
     have xV:=LP sR;have Lp:(aR te.ks (hi-lo)).length=hi-lo:=by simp[aR]
     by_cases hz:hi-lo=0
     ·have acQ:xs.take lo++aR te.ks (hi-lo)++xs.drop hi=xs:=by
       have:hi=lo:=by omega
       subst this;simp[aR]
      rw[acQ];have hr:(execOp a.eval o).run P w= .ok (.value (.tuple #[])) w:=by
       cases hq:(c.P n).nil with
       |true=>exact ai _ _ (v3 hq)
       |false=>
        rcases v4 hq with ⟨_,h⟩|⟨_,oo,_,h⟩
        ·rw[hz]at h;exact ai _ _ h
        ·exact ai _ _ h
      exact rj hok dg hd hg (hok.obj n _ hg) (λb hb=>hb) (λzs hz=>by cases hz) sv (λn hn=>by simp[b8]at hn) (λb _ _=>rfl) (bR _) rfl rfl rfl (.inl hr)
     ·have iq:(c.P n).nil=false:=by
       cases hq:(c.P n).nil with
       |false=>rfl
       |true=>have:=(fN.nil hq).1;subst this;simp at hle;omega
      obtain⟨vals,k1,k2,k3,k4,k5⟩:=fN.mem iq;rcases v4 iq with ⟨u1,hv⟩|⟨u1,oo,_,hv⟩
      ·obtain⟨inf,m8,asi,_,_,HH⟩:=hE.info el te HG;obtain⟨z,Bn,hz3,_⟩:=HH xV;have Zq:z.cells.size=te.ks.length:=by rw[hz3];simp
       have hbd:(c.P n).off+lo*(c.P n).sz+(hi-lo)*z.cells.size<=vals.size:=by rw[Zq,<-hsz,rR,<-dE];have:(lo+(hi-lo))*(c.P n).sz<=(c.P n).cap*(c.P n).sz:=cL _ (by omega);omega
       have hr:=L0 (P:=P) (w:=w) (ty:=o.type) (of:=(c.P n).off+lo*(c.P n).sz) (n:=hi-lo) (cp:=(c.P n).cap-lo) hu m8 Bn (by omega) k1 hbd (by rw[hz3];intro u qx;obtain⟨k,sP,rfl⟩:=cD.1 (by simpa using qx:u∈te.ks.map gF);cases k<;>rfl);rw[<-hv]at hr;have tz:vq σ c (c.P n).blk:=⟨n,_,hg, .inl ⟨iq,rfl⟩⟩
       rw[Zq,hz3]at hr;have hml:(madeCells (te.ks.map gF).toArray ((hi-lo)*te.ks.length)).toList.length=(hi-lo)*te.ks.length:=by simp[size_madeCells]
       have YY:(c.P n).off+lo*(c.P n).sz+(madeCells (te.ks.map gF).toArray ((hi-lo)*te.ks.length)).toList.length<=vals.size:=by rw[hml,<-Zq];exact hbd
       have hb2:=k1.setRow (iY YY);have acw:=mh YY;generalize zO:iC vals ((c.P n).off+lo*(c.P n).sz) (madeCells (te.ks.map gF).toArray ((hi-lo)*te.ks.length)).toList=new at hr hb2 acw;have akd:new.size=vals.size:=by rw[<-zO];exact iY YY
       have nW:∀b,b≠(c.P n).blk->(w.setRow (c.P n).blk new).heap[b]? =w.heap[b]? :=λb hb=>setRow_other w _ b _ hb;have hw:∀b,c.K b->(w.setRow (c.P n).blk new).heap[b]? =w.heap[b]? :=λb hk=>nW b (λe=>by subst e;exact hok.HU tz hk);have pk:∀y∈xs.take lo++aR te.ks (hi-lo)++xs.drop hi,y.map CV.kd=te.ks:=by
        intro y hy;rw[aX,aX]at hy;rcases hy with (hy|hy)|hy
        ·exact jI y (kh hy)
        ·exact vm xV _ y hy
        ·exact jI y (j6 hy)
       refine rj hok dg hd hg (ob':= .row el ex (xs.take lo++aR te.ks (hi-lo)++xs.drop hi)) ?_ ?_ (λzs hz=>by cases hz) (w':=w.setRow (c.P n).blk new) ⟨#[],rfl,rfl,λj agg xs hj=>by simp at hj⟩ (λn hn=>by simp[b8]at hn) (λb _ Mm=>nW b (λe=>Mm (.inl ⟨iq,e⟩))) (by simp[iZ]) rfl rfl rfl (.inl (exec hr))
       ·refine⟨⟨te,HG,hsz,pk⟩,⟨?_,λhn=>(by rw[iq]at hn;cases hn),λ_=>⟨new,hb2,k2,k3,by rw[akd];exact k4,λi y j x j_ hj=> ?_⟩⟩,λ_=>⟨λi j hh=>b_ hh (rF pk sR),λi j i' j' hh=>b_ hh (rF pk sR)⟩⟩
        ·rw[fN.n];simp[aR];omega
        ·have hl:=g9 sR (pk y (aM j_)) hj;have jB:j<te.ks.length:=by rw[<-pk y (aM j_),bM];exact(aP.1 hj).1
         have toR:∀u,Sc u x->(if ex=aj then XC E (w.setRow (c.P n).blk new) (c.G n) i j u x else cK E (w.setRow (c.P n).blk new) c.K u x):=by
          intro u hu;split
          ·exact u9 hl hu
          ·exact iX hl hu
         rw[EU v1 hle Lp]at j_;rw[acw,hml];by_cases hq:lo<=i/\i<hi
         ·rw[ba hq]at j_;obtain⟨acx,k,hk1,rfl⟩:=sj j_ hj;have h2:(i-lo+1)*te.ks.length<=(hi-lo)*te.ks.length:=cL _ acx;have h3:i*te.ks.length=lo*te.ks.length+(i-lo)*te.ks.length:=by rw[<-dE];congr 1;omega
          rw[dE]at h2;rw[hsz,ba (by omega)];refine⟨gF k, ?_,toR _ ?_⟩
          ·have:=km (n:=hi-lo) acx hk1;rw[cz,<-this];congr 1;omega
          ·have SN:=bf.1 sR k (aM hk1);cases k<;>first|exact⟨rfl,trivial⟩|exact⟨rfl,bC _⟩|cases SN
         ·rw[a_ hq]at j_;obtain⟨u,qx,GC⟩:=k5 i y j x j_ hj;refine⟨u, ?_,toR u ?_⟩
          ·rw[a_ ?_];exact qx;rw[hsz];by_cases zN:i<lo
           ·have:(i+1)*te.ks.length<=lo*te.ks.length:=cL _ zN;rw[dE]at this;omega
           ·have:hi*te.ks.length<=i*te.ks.length:=cL _ (by omega);have h3:hi*te.ks.length=lo*te.ks.length+(hi-lo)*te.ks.length:=by rw[<-dE];congr 1;omega
            omega
          ·split at GC
           ·exact vk GC hl
           ·exact p_ GC hl
       ·rintro b (hb|⟨_,i,j,hh,_⟩)
        ·exact .inl hb
        ·exact b_ hh (rF pk sR)
      ·omega
    unfold NT at h2;cases v with
    |nl=>obtain rfl:=aD h2;exact eW hok dg hd sv (λn hn=>by simp[b8]at hn) (ai _ _ ev)
    |own n=>
     obtain⟨ob,hg,h2⟩:=Rd.bind_some h2;have hg:=cW hg;cases ob with
     |row e' ex xs=>obtain⟨te,q1,h2⟩:=Rd.bind_some h2;obtain⟨q2,h2⟩:=b9 h2;obtain rfl:=aD h2;simp only[aJ]at q2;have:=aN q2.1;subst this;have ev:a.eval x=mb (c.P n):=ev;have:=main n ex xs 0 xs.length te hg (dz q1) q2.2 (by rw[ev];exact tM hok hg);simpa using this
     |_=>simp at h2
    |vw n lo hi=>
     obtain⟨ob,hg,h2⟩:=Rd.bind_some h2;have hg:=cW hg;cases ob with
     |row e' ex xs=>obtain⟨te,q1,h2⟩:=Rd.bind_some h2;obtain⟨q2,h2⟩:=b9 h2;obtain rfl:=aD h2;simp only[aJ]at q2;have:=aN q2.1;subst this;exact main n ex xs lo hi te hg (dz q1) q2.2 ev
     |_=>simp at h2
    |_=>simp at h2
   |_=>simp at h
  ·simp at h
 ·simp at h
end
end Go.FG

namespace Go.FG
def jh(D:ax (aG×Obj)):ax (aG×dS):=D.map λd=>(cG d.1, .o d.2)
def sq(D:ax (aG×Obj))(m:aG):Prop:=∃x,(m,x)∈D
theorem UG:∀(D:ax (aG×Obj)) (σ:St),(∀m,(wr σ (jh D) (cG m)=σ (cG m)/\¬sq D m)\/∃x,(m,x)∈D/\wr σ (jh D) (cG m)= .o x)/\∀m,slot (wr σ (jh D)) m=slot σ m:=by
 intro D;induction D with
 |nil=>intro σ;exact⟨λm=> .inl ⟨rfl,λ⟨x,hx⟩=>by cases hx⟩,λm=>rfl⟩
 |cons d D ih=>
  intro σ;obtain⟨n,x⟩:=d;obtain⟨h1,h2⟩:=ih (nE σ (cG n) (.o x));refine⟨λm=> ?_,λm=> ?_⟩
  ·show(wr (nE σ (cG n) (.o x)) (jh D) (cG m)=_/\_)\/∃y,_/\wr (nE σ (cG n) (.o x)) (jh D) (cG m)=_;rcases h1 m with ⟨q1,q2⟩|⟨y,q1,q2⟩
   ·rw[nq]at q1;by_cases hm:m=n
    ·subst hm;exact .inr ⟨x,by simp,by rw[q1,ba rfl]⟩
    ·refine .inl ⟨by rw[q1,a_ hm],λ⟨y,hy⟩=> ?_⟩;rcases b7.1 hy with hy|hy
     ·cases hy;exact hm rfl
     ·exact q2 ⟨y,hy⟩
   ·exact .inr ⟨y,cg _ q1,q2⟩
  ·show slot (wr (nE σ (cG n) (.o x)) (jh D)) m=_;rw[h2,gO]
section
variable {P:cC} {E:eL} {σ:St} {a:Act} {w:bw} {c:dZ} {o:eD} {nm:aG} {e:qQ}
theorem ES(hok:Ok E σ w c)(dg:eC E σ a w c){o:eD}(hd:∀d,o.dst=ah d->d<a.tmps.size){D:ax (aG×Obj)}{s:SV}{v:a7}{w':bw}{c':dZ}
  (hA:iH σ c c')
  (mc:∀n x,(n,x)∈D->ot E w' c' n x)
  (oz:∀n x b,(n,x)∈D->eI c' n x b->(ja (sq D) σ c b\/w.heap.size<=b)/\¬c'.K b)
  (Ot:∀n x n' x' b,(n,x)∈D->(n',x')∈D->eI c' n x b->eI c' n' x' b->n=n')
  (Ft:∀n xs,(n,Obj.box xs)∈D->∀a∈xs,∀m∈bm a,σ (cG m)≠ .iN\/sq D m)
  (hK:∀b,c.K b->c'.K b) (Lc:∀b,c'.K b->c.K b\/ja (sq D) σ c b\/w.heap.size<=b) (Dx:∀b,c'.K b->b<w'.heap.size)
  (hW:∀b,b<w.heap.size->¬ja (sq D) σ c b->w'.heap[b]? =w.heap[b]?) (hsz:w.heap.size<=w'.heap.size) (Lj:w'.os=w.os) (SU:w'.tape=w.tape) (SK:w'.output=w.output)
  (tW:ic E w' c' s v) (AM:∀n∈b8 s,σ (cG n)≠ .iN\/sq D n):
  Ok E (wr σ (jh D++dw o s)) w' c'/\eC E (wr σ (jh D++dw o s)) (a.put o.dst v) w' c'/\Grow σ c w (wr σ (jh D++dw o s)) c' w':=by
 rw[L_];obtain⟨d1,d2⟩:=UG D σ;let σ1:=wr σ (jh D);obtain⟨s1,s2,s3⟩:=oF σ1 o s;have key:∀m,(wr σ1 (dw o s) (cG m)=σ (cG m)/\¬sq D m)\/∃x,(m,x)∈D/\wr σ1 (dw o s) (cG m)= .o x:=λm=>by rw[s3];exact d1 m
 have g_:∀m,(σ (cG m)≠ .iN\/sq D m)->wr σ1 (dw o s) (cG m)≠ .iN:=by
  intro m hm;rcases key m with ⟨h1,h2⟩|⟨x,_,h2⟩
  ·rw[h1];exact hm.resolve_right h2
  ·rw[h2];simp
 have get:∀m x,sq D m->wr σ1 (dw o s) (cG m)= .o x->(m,x)∈D:=by
  intro m x hm hx;rcases key m with ⟨_,h2⟩|⟨y,h1,h2⟩
  ·exact b_ hm h2
  ·rw[h2]at hx;cases hx;exact h1
 have hh:=hok.change (σ':=wr σ1 (dw o s)) (w':=w') (c':=c') (sq D) (λm hm=>(key m).elim (λh=>h.1) (λ⟨x,h1,_⟩=>b_ ⟨x,h1⟩ hm)) (λm hm=>g_ m (.inl hm)) hA hW hsz hK Lc Dx
  (λm x hm ho=>mc m x (get m x hm ho)) (λm x b hm ho hf=>oz m x b (get m x hm ho) hf) (λm x m' x' b hm uJ ho sQ hf uI=>Ot m x m' x' b (get m x hm ho) (get m' x' uJ sQ) hf uI)
  (λm xs hm ho y hy n jC=>g_ n (Ft m xs (get m _ hm ho) y hy n jC)) Lj SU SK
 refine⟨hh.1, ?_,hh.2⟩
 refine dg.change hok hh.2 hA (λm hm=>g_ m (.inl hm)) o v (λn jC=>by rw[s1 n jC];exact d2 n) (λd ho=>⟨hd d ho, ?_, ?_⟩)
 ·rw[s2 d ho];exact tW
 ·rw[s2 d ho];intro n jC;exact g_ n (AM n jC)
theorem Hw(hok:Ok E σ w c)(dg:eC E σ a w c){o:eD}(hd:∀d,o.dst=ah d->d<a.tmps.size){D:ax (aG×Obj)}{s:SV}{v:a7}{w':bw}{c':dZ}
  (hA:iH σ c c')
  (mc:∀n x,(n,x)∈D->ot E w' c' n x)
  (oz:∀n x b,(n,x)∈D->eI c' n x b->(ja (sq D) σ c b\/w.heap.size<=b)/\¬c'.K b)
  (Ot:∀n x n' x' b,(n,x)∈D->(n',x')∈D->eI c' n x b->eI c' n' x' b->n=n')
  (Ft:∀n xs,(n,Obj.box xs)∈D->∀a∈xs,∀m∈bm a,σ (cG m)≠ .iN\/sq D m)
  (hK:∀b,c.K b->c'.K b) (Lc:∀b,c'.K b->c.K b\/ja (sq D) σ c b\/w.heap.size<=b) (Dx:∀b,c'.K b->b<w'.heap.size)
  (hW:∀b,b<w.heap.size->¬ja (sq D) σ c b->w'.heap[b]? =w.heap[b]?) (hsz:w.heap.size<=w'.heap.size) (Lj:w'.os=w.os) (SU:w'.tape=w.tape) (SK:w'.output=w.output)
  (tW:ic E w' c' s v) (AM:∀n∈b8 s,σ (cG n)≠ .iN\/sq D n)
  (hr:(execOp a.eval o).run P w= .ok (.value v) w'):fO P E σ a w c o (jh D++dw o s):=by intro K Q hQ;obtain⟨h1,h2,h3⟩:=ES hok dg hd hA mc oz Ot Ft hK Lc Dx hW hsz Lj SU SK tW AM;exact vj hr (hQ v w' c' h1 h2 h3 hA.w)
def yW(σ:St)(c:dZ)(m:aA aG)(u:a7):CV->Prop
 | .l e ys=>(m=ai/\ys=[]/\u= .slice ai 0 0)\/∃nm,m=ah nm/\u=mb (c.P nm)/\σ (cG nm)= .o (.row e aj ys)
 |x=>Sc u x
def BR(L:ax aG):ax (aG×Obj):=L.map λn=>(n, .dead)
theorem zv(L:ax aG):m7 L=jh (BR L):=by unfold m7 jh BR;rw[jr];rfl
theorem Sk{k:Ck}{x:AV}{cv:CV}{ws:ax (aG×dS)}(h:(EZ aj k x).val σ=ah (cv,ws)):
  cv.kd=k/\∃m:aA aG,ws=m7 m.toList/\(∀nm,m=ah nm->∃ob,σ (cG nm)= .o ob)/\∀u,dN E w c x u->yW σ c m u cv:=by
 have pl:plain [k]=aj->cv.kd=k/\∃m:aA aG,ws=m7 m.toList/\(∀nm,m=ah nm->∃ob,σ (cG nm)= .o ob)/\∀u,dN E w c x u->yW σ c m u cv:=by
  intro hp;have V2:cv.kd=k/\ws=[]:=by
   cases k<;>cases x<;>simp[EZ,plain]at h hp<;>first
    |(obtain⟨rfl,rfl⟩:=h;exact⟨rfl,rfl⟩)
    |(split at h<;>simp at h;rename_i hk;subst hk;obtain⟨rfl,rfl⟩:=h;exact⟨rfl,rfl⟩)
  refine⟨V2.1,ai,V2.2,λnm h=>(by cases h),λu hu=> ?_⟩
  obtain⟨_,h2,h3,_⟩:=wc hp h hu;cases cv<;>first|exact h2|simp[sI]at h3
 cases k with
 |i=>exact pl rfl
 |b=>exact pl rfl
 |s=>exact pl rfl
 |o=>cases x<;>simp[EZ]at h
 |l e=>
  cases x with
  |nl=>obtain⟨rfl,rfl⟩:=bF (aD h);exact⟨rfl,ai,rfl,λnm h=>(by cases h),λu hu=> .inl ⟨rfl,rfl,hu⟩⟩
  |sh e' xs=>simp[EZ]at h
  |own n=>
   obtain⟨ob,hg,h⟩:=Rd.bind_some h;have hg:=cW hg;cases ob with
   |row e' rW xs=>obtain⟨h1,h⟩:=b9 h;obtain⟨rfl,rfl⟩:=bF (aD h);simp only[aJ]at h1;have:=aN h1.1;subst this;obtain rfl:=h1.2;exact⟨rfl,ah n,rfl,λnm h=>(by cases h;exact⟨_,hg⟩),λu hu=> .inr ⟨n,rfl,hu,hg⟩⟩
   |eU=>simp at h
   |_=>simp at h
  |_=>simp[EZ]at h
theorem N0:∀{ks:ax Ck} {xs:ax AV} {cs:ax CV} {ws:ax (aG×dS)} (h:(we aj ks xs).val σ=ah (cs,ws)),cs.map CV.kd=ks/\xs.length=ks.length/\∃(L:ax aG) (M:aG->aA aG),ws=m7 L/\
  (∀nm∈L,∃ob,σ (cG nm)= .o ob)/\(∀j nm,M j=ah nm->nm∈L)/\(L.Nodup->∀i j nm,M i=ah nm->M j=ah nm->i=j)/\
  ∀(vals:cX a7),eQ E w c vals xs->∀(q:aG) (x:CV),cs[q]? =ah x->∃u:a7,vals[q]? =ah u/\yW σ c (M q) u x:=by
 intro ks;induction ks with
 |nil=>
  intro xs cs ws h;cases xs with
  |nil=>obtain⟨rfl,rfl⟩:=bF (aD h);exact⟨rfl,rfl,[],λ_=>ai,rfl,λnm h=>(by cases h),λj nm h=>(by cases h),λ_ i j nm h=>(by cases h),λ_ _ q x hq=>by simp at hq⟩
  |cons=>simp[we]at h
 |cons k ks ih=>
  intro xs cs ws h;cases xs with
  |nil=>simp[we]at h
  |cons x xs=>
   obtain⟨⟨cv,w1⟩,h1,h⟩:=Rd.bind_some h;obtain⟨⟨cr,w2⟩,h2,h⟩:=Rd.bind_some h;obtain⟨rfl,rfl⟩:=bF (aD h);obtain⟨e1,m,rfl,e2,e3⟩:=Sk (E:=E) (w:=w) (c:=c) h1;obtain⟨i1,i2,L,M,rfl,i4,i5,i6,i7⟩:=ih h2;refine⟨by simp[e1,i1],by simp[i2],m.toList++L,λj=>match j with|0=>m|j+1=>M j,by simp[m7], ?_, ?_, ?_, ?_⟩
   ·intro nm hnm;rcases aX.1 hnm with h|h
    ·exact e2 nm (by simpa using h)
    ·exact i4 nm h
   ·intro j nm hj;cases j with
    |zero=>exact bL _ (by simpa using hj)
    |succ j=>exact bE _ (i5 j nm hj)
   ·intro Fv i j nm hi hj;obtain⟨n1,n2,n3⟩:=dQ.1 Fv;cases i with
    |zero=>
     cases j with
     |zero=>rfl
     |succ j=>exact b_ rfl (n3 nm (by simpa using hi) nm (i5 j nm hj))
    |succ i=>
     cases j with
     |zero=>exact b_ rfl (n3 nm (by simpa using hj) nm (i5 i nm hi))
     |succ j=>rw[i6 n2 i j nm hi hj]
   ·intro vals hv q y hq;cases q with
    |zero=>cases hq;obtain⟨u,hu,ha⟩:=hv.2 0 x rfl;exact⟨u,hu,e3 u ha⟩
    |succ q=>
     have Ov:eQ E w c (vals.extract 1 vals.size) xs:=by
      refine⟨by simp;have:=hv.1;simp at this;omega,λj b hj=> ?_⟩
      obtain⟨u,hu,hb⟩:=hv.2 (j+1) b hj;refine⟨u, ?_,hb⟩
      have:=(c8.1 hu).1;rw[dF,ba (by omega),ia];exact hu
     obtain⟨u,r1,r2⟩:=i7 _ Ov q y hq;refine⟨u, ?_,r2⟩
     rw[dF]at r1;split at r1
     ·rw[ia];exact r1
     ·cases r1
theorem Hi{k:Ck}{x:AV}{cv:CV}{ws:ax (aG×dS)}(hok:Ok E σ w c)(h:(EZ ao k x).val σ=ah (cv,ws)):cv.kd=k/\ws=[]/\∀u,dN E w c x u->cK E w c.K u cv:=by
 have pl:plain [k]=aj->cv.kd=k/\ws=[]/\∀u,dN E w c x u->cK E w c.K u cv:=by
  intro hp;have V2:cv.kd=k/\ws=[]:=by
   cases k<;>cases x<;>simp[EZ,plain]at h hp<;>first
    |(obtain⟨rfl,rfl⟩:=h;exact⟨rfl,rfl⟩)
    |(split at h<;>simp at h;rename_i hk;subst hk;obtain⟨rfl,rfl⟩:=h;exact⟨rfl,rfl⟩)
  refine⟨V2.1,V2.2,λu hu=> ?_⟩
  obtain⟨_,h2,h3,_⟩:=wc hp h hu;exact iX h3 h2
 cases k with
 |i=>exact pl rfl
 |b=>exact pl rfl
 |s=>exact pl rfl
 |o=>cases x<;>simp[EZ]at h
 |l e=>
  cases x with
  |nl=>obtain⟨rfl,rfl⟩:=bF (aD h);exact⟨rfl,rfl,λu hu=>by rw[show u=_ from hu];exact .nl _ _ _⟩
  |sh e' xs=>obtain⟨h1,h⟩:=b9 h;obtain⟨rfl,rfl⟩:=bF (aD h);simp only[aJ]at h1;have:=aN h1.1;subst this;exact⟨rfl,rfl,λu hu=>hu⟩
  |own n=>
   obtain⟨ob,hg,h⟩:=Rd.bind_some h;have hg:=cW hg;cases ob with
   |row e' rW xs=>obtain⟨h1,h⟩:=b9 h;simp at h
   |eU e' xs=>
    obtain⟨h1,h⟩:=b9 h;obtain⟨rfl,rfl⟩:=bF (aD h);simp only[aJ]at h1;have:=aN h1.1;subst this;refine⟨rfl,rfl,λu hu=> ?_⟩
    have hu:u=mb (c.P n):=hu;rw[hu];exact(hok.obj n _ hg).1
   |_=>simp at h
  |_=>simp[EZ]at h
theorem E7(hok:Ok E σ w c):∀{ks:ax Ck} {xs:ax AV} {cs:ax CV} {ws:ax (aG×dS)} (h:(we ao ks xs).val σ=ah (cs,ws)),cs.map CV.kd=ks/\xs.length=ks.length/\ws=[]/\
  ∀(vals:cX a7),eQ E w c vals xs->∀(q:aG) (x:CV),cs[q]? =ah x->∃u:a7,vals[q]? =ah u/\cK E w c.K u x:=by
 intro ks;induction ks with
 |nil=>
  intro xs cs ws h;cases xs with
  |nil=>obtain⟨rfl,rfl⟩:=bF (aD h);exact⟨rfl,rfl,rfl,λ_ _ q x hq=>by simp at hq⟩
  |cons=>simp[we]at h
 |cons k ks ih=>
  intro xs cs ws h;cases xs with
  |nil=>simp[we]at h
  |cons x xs=>
   obtain⟨⟨cv,w1⟩,h1,h⟩:=Rd.bind_some h;obtain⟨⟨cr,w2⟩,h2,h⟩:=Rd.bind_some h;obtain⟨rfl,rfl⟩:=bF (aD h);obtain⟨e1,e2,e3⟩:=Hi hok h1;obtain⟨i1,i2,i3,i7⟩:=ih h2;refine⟨by simp[e1,i1],by simp[i2],by rw[e2,i3];rfl,λvals hv q y hq=> ?_⟩
   cases q with
   |zero=>cases hq;obtain⟨u,hu,ha⟩:=hv.2 0 x rfl;exact⟨u,hu,e3 u ha⟩
   |succ q=>
    have Ov:eQ E w c (vals.extract 1 vals.size) xs:=by
     refine⟨by simp;have:=hv.1;simp at this;omega,λj b hj=> ?_⟩
     obtain⟨u,hu,hb⟩:=hv.2 (j+1) b hj;refine⟨u, ?_,hb⟩
     have:=(c8.1 hu).1;rw[dF,ba (by omega),ia];exact hu
    obtain⟨u,r1,r2⟩:=i7 _ Ov q y hq;refine⟨u, ?_,r2⟩
    rw[dF]at r1;split at r1
    ·rw[ia];exact r1
    ·cases r1
end
end Go.FG

namespace Go.FG
section
variable {P:cC} {E:eL} {σ:St} {a:Act} {w:bw} {c:dZ} {o:eD} {nm:aG} {e:qQ}
structure Inv (E:eL) (σ:St) (w:bw) (c:dZ) (ex:aU) (ks:ax Ck) (vals:cX a7) (z:Row) (N:aG->aG->aA aG) (S:ax aG):Prop where
 size:vals.size=z.length*ks.length
 sh:∀y∈z,y.map CV.kd=ks
 inS:∀i j nm,N i j=ah nm->nm∈S
 inj:∀i j i' j' nm,N i j=ah nm->N i' j'=ah nm->i=i'/\j=j'
 cell:∀(i:aG) (y:ax CV) (j:aG) (x:CV),z[i]? =ah y->y[j]? =ah x->∃u:a7,vals[i*ks.length+j]? =ah u/\(if ex=aj then yW σ c (N i j) u x else cK E w c.K u x)
theorem Inv.set{ex:aU}{ks:ax Ck}{vals:cX a7}{z:Row}{N:aG->aG->aA aG}{S:ax aG}(h:Inv E σ w c ex ks vals z N S){i0:aG}(hi:i0<z.length){cs:ax CV}{vs:cX a7}(hk:cs.map CV.kd=ks)(hvs:vs.size=ks.length)
  {M:aG->aA aG} {L:ax aG} (hM:∀j nm,M j=ah nm->nm∈L) (hMi:∀i j nm,M i=ah nm->M j=ah nm->i=j) (hd:∀nm∈L,nm∉S)
  (hc:∀(q:aG) (x:CV),cs[q]? =ah x->∃u:a7,vs[q]? =ah u/\(if ex=aj then yW σ c (M q) u x else cK E w c.K u x)):
  Inv E σ w c ex ks (iC vals (i0*ks.length) vs.toList) (z.set i0 cs) (λi j=>if i=i0 then M j else N i j) (S++L):=by
 have h1:(i0+1)*ks.length<=z.length*ks.length:=cL _ hi;rw[dE]at h1;have hb:i0*ks.length+vs.toList.length<=vals.size:=by rw[h.size,show vs.toList.length=ks.length from hvs];omega
 refine⟨by rw[iY hb,dt];exact h.size, ?_, ?_, ?_, ?_⟩
 ·intro y hy;rcases iD hy with hy|hy
  ·exact h.sh y hy
  ·rw[hy];exact hk
 ·intro i j nm hn;replace hn:(if i=i0 then M j else N i j)=ah nm:=hn;split at hn
  ·exact bE _ (hM j nm hn)
  ·exact bL _ (h.inS i j nm hn)
 ·intro i j i' j' nm hn jC;replace hn:(if i=i0 then M j else N i j)=ah nm:=hn;replace jC:(if i'=i0 then M j' else N i' j')=ah nm:=jC;split at hn
  ·rename_i e1;split at jC
   ·rename_i e2;exact⟨e1.trans e2.symm,hMi j j' nm hn jC⟩
   ·exact b_ (h.inS i' j' nm jC) (hd nm (hM j nm hn))
  ·split at jC
   ·exact b_ (h.inS i j nm hn) (hd nm (hM j' nm jC))
   ·exact h.inj i j i' j' nm hn jC
 ·intro i y j x hy hx;rw[Md]at hy;rw[mh hb,show vs.toList.length=ks.length from hvs];by_cases Fs:i0=i
  ·subst Fs;rw[ba rfl,ba hi]at hy;cases hy;have hj:j<ks.length:=by rw[<-hk,bM];exact(aP.1 hx).1
   obtain⟨u,hu,hr⟩:=hc j x hx;refine⟨u, ?_,by simpa using hr⟩
   rw[ba (by omega),cz,<-hu];congr 1;omega
  ·rw[a_ Fs]at hy;obtain⟨u,hu,hr⟩:=h.cell i y j x hy hx;have hj:j<ks.length:=by rw[<-h.sh y (aM hy),bM];exact(aP.1 hx).1
   refine⟨u, ?_,by rw[show(if i=i0 then M j else N i j)=N i j from a_ (λe=>Fs e.symm)];exact hr⟩
   rw[a_ ?_];exact hu;rcases Mh Fs with jj|hgt
   ·have:(i0+1)*ks.length<=i*ks.length:=cL _ jj;rw[dE]at this;omega
   ·have:(i+1)*ks.length<=i0*ks.length:=cL _ hgt;rw[dE]at this;omega
theorem KV(hok:Ok E σ w c)(dg:eC E σ a w c){ex:aU}{ks:ax Ck}(me:0<ks.length):∀(ps:ax (aG×cY)) (z z':Row) (ws:ax (aG×dS)),(Hh ex ks ps z).val σ=ah (z',ws)->
  z'.length=z.length/\∃L,ws=m7 L/\(∀nm∈L,∃ob,σ (cG nm)= .o ob)/\∀vals N S,(S++L).Nodup->Inv E σ w c ex ks vals z N S->
   ∃jo N',n9 (λi=>ah (i*ks.length,ks.length)) vals (ps.map λ(i,x)=>(i,a.eval x))=ah jo/\Inv E σ w c ex ks jo z' N' (S++L):=by
 intro ps;induction ps with
 |nil=>intro z z' ws h;obtain⟨rfl,rfl⟩:=bF (aD h);exact⟨rfl,[],rfl,λnm h=>(by cases h),λvals N S _ hi=>⟨vals,N,rfl,by rw[dv];exact hi⟩⟩
 |cons p r ih=>
  obtain⟨i0,x⟩:=p;intro z z' ws h;obtain⟨v,h1,h⟩:=Rd.bind_some h;obtain⟨SM,hkv⟩:=kR dg h1;cases v with
  |v g ys=>
   obtain⟨h2,h⟩:=b9 h;have h2:=cf h2;obtain⟨⟨cs,w1⟩,h3,h⟩:=Rd.bind_some h;obtain⟨⟨z1,w2⟩,h4,h⟩:=Rd.bind_some h;obtain⟨rfl,rfl⟩:=bF (aD h);have nC:=o_.cells SM
   have EZ:cs.map CV.kd=ks/\ys.length=ks.length/\∃(L:ax aG) (M:aG->aA aG),w1=m7 L/\(∀nm∈L,∃ob,σ (cG nm)= .o ob)/\(∀j nm,M j=ah nm->nm∈L)/\(L.Nodup->∀i j nm,M i=ah nm->M j=ah nm->i=j)/\
     ∀(q:aG) (x:CV),cs[q]? =ah x->∃u:a7,(a.eval ‹cY›).cells[q]? =ah u/\(if ex=aj then yW σ c (M q) u x else cK E w c.K u x):=by
    cases ex with
    |true=>obtain⟨q1,q2,L,M,q3,q4,q5,q6,q7⟩:=N0 (E:=E) (w:=w) (c:=c) h3;exact⟨q1,q2,L,M,q3,q4,q5,q6,λq x hq=>by simpa using q7 _ nC q x hq⟩
    |false=>obtain⟨q1,q2,q3,q4⟩:=E7 hok h3;exact⟨q1,q2,[],λ_=>ai,q3,λnm h=>(by cases h),λj nm h=>(by cases h),λ_ i j nm h=>(by cases h),λq x hq=>by simpa using q4 _ nC q x hq⟩
   obtain⟨q1,q2,L,M,rfl,q4,q5,q6,q7⟩:=EZ;obtain⟨i1,L2,rfl,i3,i4⟩:=ih _ _ _ h4;rw[dt]at i1;refine⟨i1,L++L2,by simp[m7],λnm hn=>(aX.1 hn).elim (q4 nm) (i3 nm),λvals N S Fv hinv=> ?_⟩
   have acF:((S++L)++L2).Nodup:=by rw[bY];exact Fv
   obtain⟨n1,n2,n3⟩:=dQ.1 acF;obtain⟨m1,m2,m3⟩:=dQ.1 n1;have hvs:(a.eval x).cells.size=ks.length:=by rw[nC.1,q2]
   have acz:=hinv.set (i0:=i0) (by omega) q1 hvs q5 (q6 m2) (λnm hn hs=>m3 nm hs nm hn rfl) q7;obtain⟨jo,N',f1,f2⟩:=i4 _ _ _ acF acz;refine⟨jo,N', ?_,by rw[<-bY];exact f2⟩
   have h1:(i0+1)*ks.length<=z.length*ks.length:=cL _ h2;rw[dE,<-hinv.size]at h1;simp only[eF,n9];rw[a_ (by simp[hvs];omega)];have:=BX (off:=i0*ks.length) (vs:=(a.eval x).cells) (cells:=vals) (by omega);rw[<-f1];exact je (λq=>n9 (λi=>ah (i*ks.length,ks.length)) q _) this
  |jf=>simp at h
  |un=>simp at h
theorem Aq{t el n:aG}{inf:AG}{z:a7}{ks:ax Ck}{ps:cX (aG×a7)}{cells:cX a7}(hu:P.underlying t=ah (.slice el))(hi:P.info? el=ah inf)(hsz:inf.size=ks.length)(hz:inf.zero=ah z)(hzc:z.cells=(ks.map gF).toArray)
  (h24:n*ks.length<=16777216) (hf:n9 (λi=>ah (i*ks.length,ks.length)) (madeCells (ks.map gF).toArray (n*ks.length)) ps.toList=ah cells):
  (wO t n ps).run P w= .ok (.slice (ah (ad w.heap.size 0)) n n) (w.alloc (.cells cells el)):=by
 have ajx:¬(n*ks.length>2^24):=by omega
 by_cases h0:n*ks.length=0
 ·have e0:(XI (n*ks.length)).map (λi=>(#[]:cX a7)[i%(#[]:cX a7).size]!)=madeCells (ks.map gF).toArray (n*ks.length):=by rw[h0];simp[madeCells,Array.range_zero']
  simp only[wO,bV,run_underlying hu,bk,sizeOf,typeInfo,program,nv,hi,hsz,cy,h0,if_true,lO];rw[h0]at e0 hf;rw[e0,hf];simp only[newRow,newObj,bV,nv,bk,cy];rfl
 ·have e0:(XI (n*ks.length)).map (λi=>z.cells[i%z.cells.size]!)=madeCells (ks.map gF).toArray (n*ks.length):=by rw[hzc];rfl
  simp only[wO,bV,run_underlying hu,bk,sizeOf,typeInfo,program,nv,hi,hsz,ajx,if_false,cy,h0,zeroValue,hz,lO];rw[e0,hf];simp only[newRow,newObj,bV,nv,bk,cy];rfl
theorem py:∀{l:ax aG},ry l=aj->l.Nodup
 |[],_=> .nil
 |n::r,h=>by
  simp only[ry,aJ,dA]at h;refine jy.2 ⟨λhm=> ?_,py h.2⟩;have:ld n r=true:=by
   have:=h.1;clear h;induction r with
   |nil=>cases hm
   |cons m r ih=>
    rcases b7.1 hm with rfl|hm
    ·simp[ld]
    ·simp only[ld,gD]at this⊢;rw[ih hm this.2];simp
  rw[this]at h;cases h.1
theorem qe{α β:Type}{f:α->β}:∀{l:ax α},(l.map f).Nodup->l.Nodup
 |[],_=> .nil
 |x::l,h=>by
  rw[eF,jy]at h;exact jy.2 ⟨λhm=>h.1 (cD.2 ⟨x,hm,rfl⟩),qe h.2⟩
theorem Sy{ks:ax Ck}(hf:flat E ks=aj){e:aG}(hm:Ck.l e∈ks):∃t,E.ty e=ah t/\plain t.ks=true:=by
 have h:=bf.1 hf _ hm;replace h:(match E.ty e with|some ti=>plain ti.ks|none=>ao)=true:=h;cases ht:E.ty e with
 |none=>rw[ht]at h;cases h
 |some t=>rw[ht]at h;exact⟨t,rfl,h⟩
theorem LW(hok:Ok E σ w c){n e:aG}{ex:aU}{xs:Row}(hg:σ (cG n)= .o (.row e ex xs)){t:TI}(ht:E.ty e=ah t)(hp:plain t.ks=aj):
  (c.P n).sz=t.ks.length/\(∀y∈xs,y.map CV.kd=t.ks)/\ij w (c.P n) xs (λ_ _ u x=>Sc u x):=by
 obtain⟨⟨t2,q1,q2,q3⟩,q4,_⟩:=hok.obj n _ hg;obtain rfl:t=t2:=aD (ht.symm.trans q1);refine⟨q2,q3,q4.frame (λ_=>rfl) (λi j y x u hi hj hr=> ?_)⟩
 have hl:=g9 hp (q3 y (aM hi)) hj;split at hr
 ·exact vk hr hl
 ·exact p_ hr hl
theorem NP(hok:Ok E σ w c){ks:ax Ck}(hf:flat E ks=aj){m:aA aG}{G:aG->aG->Pl}{i j:aG}(hG:G i j=match m with|some n=>c.P n|none=>HR E ks i j){u:a7}{x:CV}(hx:ks[j]? =ah x.kd){w':bw}(hw:∀b,b<w.heap.size->(∃n,m=ah n/\b=(c.P n).blk)->w'.heap[b]? =w.heap[b]?)(h:yW σ c m u x):XC E w' G i j u x:=by
 cases x with
 |l e ys=>
  obtain⟨t,ht,hp⟩:=Sy hf (aM hx);rcases h with ⟨rfl,rfl,rfl⟩|⟨n,rfl,rfl,hg⟩
  ·refine⟨by rw[hG];rfl,t,ht,hp, ?_,λy hy=>(by cases hy),⟨by rw[hG];rfl,λ_=>⟨rfl,by rw[hG];rfl⟩,λhn=>by rw[hG]at hn;cases hn⟩⟩
   rw[hG];show(match ks[j]? with|some (.l e)=>(match E.ty e with|some t=>t.ks.length|none=>0)|_=>0)=_;rw[hx];simp only[CV.kd,ht]
  ·obtain⟨q1,q2,q3⟩:=LW hok hg ht hp;refine⟨by rw[hG],t,ht,hp,by rw[hG];exact q1,q2, ?_⟩
   rw[hG];refine q3.frame (λhn=>hw _ (vq.lt hok ⟨n,_,hg, .inl ⟨hn,rfl⟩⟩) ⟨n,rfl,rfl⟩) (λ_ _ _ _ _ _ _ h=>h)
 |i=>exact h
 |b=>exact h
 |s=>exact h
theorem Bp(hE:dP P E)(hok:Ok E σ w c)(dg:eC E σ a w c)(hd:∀d,o.dst=ah d->d<a.tmps.size){t n:aG}{ps:cX (aG×cY)}(ho:o.op= .buildSlice t n ps)(h:(kH E nm o).val σ=ah e)(hc:e.cond=aj):fO P E σ a w c o e.ws:=by
 simp only[kH,ho]at h;obtain⟨ti,h1,h⟩:=Rd.bind_some h;have h1:=dz h1;split at h
 ·rename_i el rY AM;obtain⟨te,h2,h⟩:=Rd.bind_some h;have h2:=dz h2;obtain⟨xV,h⟩:=b9 h;obtain⟨ex0,_,h⟩:=Rd.bind_some h;obtain⟨⟨xs,ws⟩,h3,h⟩:=Rd.bind_some h;obtain⟨u,h4,h⟩:=Rd.bind_some h;obtain⟨hf,jj⟩:=jA h4;obtain rfl:=aD h;simp only[aJ]at hc;obtain⟨h24,Fv⟩:=hc;have h24:=cf h24;have hu:=nR hE h1 rY AM;obtain⟨inf,hi,hsz,_,me,hz⟩:=hE.info el te h2;obtain⟨z,HH,Bn,_⟩:=hz xV;have Ml:(ex0&&flat E te.ks)=aj->flat E te.ks=true:=λh=>by simp only[aJ]at h;exact h.2
  generalize (ex0&&flat E te.ks)=ex at h3 Ml⊢;obtain⟨hlen,L,rfl,hL,Oq⟩:=KV (c:=c) hok dg me ps.toList _ _ _ h3;have Fv:L.Nodup:=by have:=py Fv;unfold m7 at this;rw[jr]at this;exact qe this
  obtain⟨vals,N,acs,hinv⟩:=Oq (madeCells (te.ks.map gF).toArray (n*te.ks.length)) (λ_ _=>ai) [] (by simpa using Fv)
   ⟨by rw[size_madeCells];simp[aR],vm xV n,λi j nm h=>(by cases h),λi j i' j' nm h=>(by cases h),λi y j x hy hx=>by
    obtain⟨g6,k,hk,rfl⟩:=sj hy hx;refine⟨gF k,km g6 hk, ?_⟩
    have hko:=bf.1 xV k (aM hk);split
    ·cases k with
     |l e=>exact .inl ⟨rfl,rfl,rfl⟩
     |o=>cases hko
     |s=>exact⟨rfl,bC _⟩
     |_=>exact⟨rfl,trivial⟩
    ·exact Iv hko⟩
  rw[eR]at hinv;have hr:=Aq (P:=P) (w:=w) (n:=n) (ps:=ps.map λ(i,x)=>(i,a.eval x)) hu hi hsz HH Bn h24 (by rw[xD];exact acs);have Lp:xs.length=n:=by rw[hlen];simp[aR]
  let g:aG->aG->Pl:=λi j=>match N i j with|some m=>c.P m|none=>HR E te.ks i j
  let c':dZ:=⟨λm=>if m=nm then⟨ao,w.heap.size,0,n,n,te.ks.length⟩else c.P m,λm=>if m=nm then g else c.G m,c.K⟩
  have hP:c'.P nm=⟨ao,w.heap.size,0,n,n,te.ks.length⟩:=ba rfl;have hG:c'.G nm=g:=ba rfl;have hA:iH σ c c':=λm hm=>by
   have:m≠nm:=by rintro rfl;rcases hm with h|h;exact h hf;omega
   exact⟨a_ this,a_ this⟩
  have gN:∀i j,(g i j).nil=ao->∃m ob,N i j=ah m/\g i j=c.P m/\m∈L/\σ (cG m)= .o ob:=by
   intro i j hn;cases hm:N i j with
   |none=>simp only[g,hm]at hn;cases hn
   |some m=>obtain⟨ob,mc⟩:=hL m (hinv.inS i j m hm);exact⟨m,ob,rfl,by simp only[g,hm],hinv.inS i j m hm,mc⟩
  have la:∀i j,ex=aj->fC xs i j->(g i j).nil=ao->∃m el2 ys,N i j=ah m/\g i j=c.P m/\m∈L/\σ (cG m)= .o (.row el2 aj ys)/\(c.P m).nil=false:=by
   rintro i j hex ⟨y,x,hy,hx,hl⟩ hn;obtain⟨m,ob,q1,q2,q3,q4⟩:=gN i j hn;obtain⟨u,_,hr⟩:=hinv.cell i y j x hy hx;rw[ba hex,q1]at hr;cases x with
   |l e2 ys=>
    rcases hr with ⟨h,_⟩|⟨m',h,_,hg⟩
    ·cases h
    ·cases h;exact⟨m,e2,ys,q1,q2,q3,hg,by rw[<-q2];exact hn⟩
   |i=>simp[sI]at hl
   |b=>simp[sI]at hl
   |s=>simp[sI]at hl
  have Ox:∀b,b<w.heap.size->(w.alloc (.cells vals el)).heap[b]? =w.heap[b]? :=λb hb=>heap_alloc_old w _ b hb;have mem:∀m x,(m,x)∈BR L++[(nm,Obj.row el ex xs)]->(m∈L/\x= .dead)\/(m=nm/\x= .row el ex xs):=by
   intro m x hm;rcases aX.1 hm with hm|hm
   ·unfold BR at hm;obtain⟨q,hq,h⟩:=cD.1 hm;cases h;exact .inl ⟨hq,rfl⟩
   ·rw[aW]at hm;cases hm;exact .inr ⟨rfl,rfl⟩
  have hws:m7 L++(cG nm,dS.o (.row el ex xs))::dw o (.v ao [.own nm])=jh (BR L++[(nm,Obj.row el ex xs)])++dw o (.v ao [.own nm]):=by rw[zv];unfold jh;simp
  show fO P E σ a w c o (m7 L++(cG nm,dS.o (.row el ex xs))::dw o (.v ao [.own nm]));rw[hws];refine Hw hok dg hd (c':=c') (w':=w.alloc (.cells vals el)) (v:= .slice (ah (ad w.heap.size 0)) n n) hA ?_ ?_ ?_ ?_ (λ_ h=>h) (λ_ h=> .inl h) (λb hb=>gC (hok.lt b hb) (by simp)) (λb hb _=>Ox b hb) (by simp) rfl rfl rfl ?_ ?_ ?_
  ·intro m x hm;rcases mem m x hm with ⟨_,rfl⟩|⟨rfl,rfl⟩
   ·trivial
   ·refine⟨⟨te,h2,by rw[hP],hinv.sh⟩, ?_,λhex=> ?_⟩
    ·rw[hP,hG];refine⟨Lp.symm,λhn=>(by cases hn),λ_=>⟨vals,o4.alloc w _ el,bR _, ?_, ?_,λi y j x hy hx=> ?_⟩⟩
     ·show n<=2^63-1;have:n*1<=n*te.ks.length:=Nat.mul_le_mul_left _ me;omega
     ·rw[hinv.size,Lp];simp
     ·obtain⟨u,qx,GC⟩:=hinv.cell i y j x hy hx;refine⟨u,by simpa using qx, ?_⟩
      split at GC
      ·rename_i hex;rw[ba hex];refine NP hok (Ml hex) rfl ?_ (λb hb _=>Ox b hb) GC;rw[<-hinv.sh y (aM hy),bg,hx];rfl
      ·rename_i hex;rw[a_ hex];exact GC.frame (λb hb=>Ox b (hok.lt b hb)) (λ_ h=>h)
    ·rw[hP,hG];refine⟨λi j hh hn _=> ?_,λi j i' j' hh tV hn jC hbk=> ?_⟩
     ·obtain⟨m',e2,ys,_,q2,_,q4,q5⟩:=la i j hex hh hn;have:(c.P m').blk<w.heap.size:=vq.lt hok ⟨m',_,q4, .inl ⟨q5,rfl⟩⟩;rw[q2];show(c.P m').blk≠w.heap.size;omega
     ·obtain⟨m1,e1,y1,p1,p2,_,p4,p5⟩:=la i j hex hh hn;obtain⟨m2,e2,y2,r1,r2,_,r4,r5⟩:=la i' j' hex tV jC;rw[p2,r2]at hbk;have:=hok.sep m1 _ m2 _ _ p4 r4 (.inl ⟨p5,rfl⟩) (.inl ⟨r5,hbk⟩);subst this;exact hinv.inj i j i' j' m1 p1 r1
  ·intro m x b hm oz;rcases mem m x hm with ⟨_,rfl⟩|⟨rfl,rfl⟩
   ·exact oz.elim
   ·rcases oz with ⟨_,rfl⟩|⟨hex,i,j,hh,hn,rfl⟩
    ·rw[hP];exact⟨.inr (bR _),λhk=>by have:=hok.lt _ hk;exact b_ this (bB _)⟩
    ·rw[hG]at hn⊢;obtain⟨m',e2,ys,_,q2,q3,q4,q5⟩:=la i j hex hh hn;rw[q2];refine⟨.inl ⟨m',_,⟨.dead,bL _ (cD.2 ⟨m',q3,rfl⟩)⟩,q4, .inl ⟨q5,rfl⟩⟩,hok.kk m' _ _ q4 (.inl ⟨q5,rfl⟩)⟩
  ·intro m x m' x' b hm uJ oz Og;rcases mem m x hm with ⟨_,rfl⟩|⟨rfl,rfl⟩
   ·exact oz.elim
   ·rcases mem m' x' uJ with ⟨_,rfl⟩|⟨rfl,rfl⟩
    ·exact Og.elim
    ·rfl
  ·intro m zs hm;rcases mem m _ hm with ⟨_,h⟩|⟨_,h⟩<;>cases h
  ·show _=mb (c'.P nm);rw[hP];rfl
  ·intro m hm;have:m=nm:=by simpa [b8,bm]using hm
   subst this;exact .inr ⟨_,bE _ (aW.2 rfl)⟩
  ·unfold execOp;rw[ho];exact gZ hr
 ·simp at h
end
end Go.FG

namespace Go.FG
section
variable {P:cC}
def kF(elem:TypeId)(size:aG)(base:aA Addr)(sLen sCap:aG)(s x:a7)(aR:aU)(n:aG)(EI:Sem (cX a7)):Sem a7:=
 if sLen+n<=sCap then do
  let new<-EI
  if let ah a:=base then storeCells (a.add (sLen*size)) new.toList
  pure (.slice base (sLen+n) sCap)
 else do
  if((sLen+n:aG):ay)>ar.max/\(aR\/(<-typeInfo elem).bytes=0)then runtimePanic (.error "growslice: len out of range")
  if Ef (sLen+n) sCap*(<-typeInfo elem).bytes>2^48 then(if aR then runtimePanic (.error "growslice: len out of range")else do
   if !(<-Builtin.mayShare size sLen n base x)then mark .noRoom
   unsupported (.resourceLimit "append: a slice or a string whose bytes no memory bears"))
  let HQ<-choose (.appendCap (sLen+n) sCap elem)
  askRoom (HQ*(<-typeInfo elem).bytes)
  let old<-fV size sLen s
  let new<-EI
  let rest:=fD (<-zeroValue elem).cells (HQ-(sLen+n))
  pure (.slice (ah (<-newRow elem (old++new++rest))) (sLen+n) HQ)
theorem wC{w:bw}{t u ty el:aG}{inf:AG}(hu:P.underlying t=ah (.slice el))(hi:P.info? el=ah inf)(hd:(∃e',P.underlying u=ah (.slice e'))\/P.underlying u=ah .string)
  {base:aA Addr} {sLen sCap m:aG} {x:a7} (hl:(rQ x).run P w= .ok m w):
  (j4 #[t,u] ty #[.slice base sLen sCap,x]).run P w=(kF el inf.size base sLen sCap (.slice base sLen sCap) x ao m (fV inf.size m x)).run P w:=by
 have hs:(sizeOf el).run P w= .ok inf.size w:=by simp[sizeOf,typeInfo,hi]
 rcases hd with ⟨e',hd⟩|hd<;>
  (simp only[j4,f_,qC,dr,bV,run_underlying hu,run_underlying hd,bk,hs,cy,hl,cN,if_false,bO,if_true,false_or,lO]
   unfold kF
   simp only[lO,bV,cN,if_false,false_or,cy]
   try rfl)
theorem Ao{w:bw}{t u ty el:aG}{inf:AG}(hu:P.underlying t=ah (.slice el))(hi:P.info? el=ah inf){k:lU}(hd:P.underlying u=ah (.int k))
  {base:aA Addr} {sLen sCap m:aG} {x:a7} {k':lU} (hx:x= .int k' (m:ay)) (h1:m<=9223372036854775807) (h2:m*inf.bytes<=140737488355328):
  (j4 #[t,u] ty #[.slice base sLen sCap,x]).run P w=(kF el inf.size base sLen sCap (.slice base sLen sCap) x aj m (if m*inf.size=0 then pure #[]else do pure (fD (<-zeroValue el).cells m))).run P w:=by
 have hs:(sizeOf el).run P w= .ok inf.size w:=by simp[sizeOf,typeInfo,hi]
 have ht:∀W,(typeInfo el).run P W= .ok inf W:=λW=>by simp[typeInfo,hi]
 have hw:ar.wrap (m:ay)=m:=by rw[oJ];omega
 have c1:¬((m:ay)<0):=by omega
 have c2:¬((m:ay)*(inf.bytes:ay)>2^48):=by
  have a2:((m*inf.bytes:aG):ay)<=140737488355328:=by generalize m*inf.bytes=q at h2;omega
  rw[RM]at a2;generalize (m:ay)*(inf.bytes:ay)=q at a2;have:(2:ay)^48=281474976710656:=by decide
  omega
 subst hx;have ha:(asInt (.int k' (m:ay))).run P w= .ok (m:ay) w:=by simp[asInt,asIntOf]
 simp only[j4,f_,qC,dr,bV,run_underlying hu,run_underlying hd,bk,hs,ht,ha,hw,c1,c2,cy,if_false,a9,cN,if_true,lO,dD];unfold kF;simp only[lO,bV,if_true,true_or,and_true,cy,ht,bk];try rfl
theorem Bu{w w':bw}{el size sLen sCap m:aG}{a:Addr}{s x:a7}{zs:aU}{app:Sem (cX a7)}{news:ax a7}(ha:app.run P w= .ok news.toArray w)(h:sLen+m<=sCap)(Ln:(storeCells (a.add (sLen*size)) news).run P w= .ok () w'):
  (kF el size (ah a) sLen sCap s x zs m app).run P w= .ok (.slice (ah a) (sLen+m) sCap) w':=by unfold kF;rw[ba h];simp only[bV,ha,bk,Ln,cy]
theorem Bt{w:bw}{el size sCap:aG}{s x:a7}{zs:aU}{app:Sem (cX a7)}{news:ax a7}(ha:app.run P w= .ok news.toArray w):
  (kF el size ai 0 sCap s x zs 0 app).run P w= .ok (.slice ai 0 sCap) w:=by unfold kF;rw[ba (bC _)];simp only[bV,ha,bk,cy]
theorem Bs{w:bw}{el size sLen sCap m:aG}{base:aA Addr}{s x:a7}{zs:aU}{app:Sem (cX a7)}{tI news:ax a7}{inf:AG}{z:a7}(hi:P.info? el=ah inf)(hz:inf.zero=ah z)
  (h:¬sLen+m<=sCap) (h63:sLen+m<=9223372036854775807) (h48:(sLen+m)*inf.bytes<=140737488355328)
  (ho:(fV size sLen s).run P w.drew= .ok tI.toArray w.drew) (ha:app.run P w.drew= .ok news.toArray w.drew):
  (kF el size base sLen sCap s x zs m app).run P w= .ok (.slice (ah (ad w.heap.size 0)) (sLen+m) (grownCap w (sLen+m) sCap el))
   (w.drew.alloc (.cells (tI.toArray++news.toArray++fD z.cells (grownCap w (sLen+m) sCap el-(sLen+m))) el)):=by
 have ht:∀W,(typeInfo el).run P W= .ok inf W:=λW=>by simp[typeInfo,hi]
 have hzv:∀W,(zeroValue el).run P W= .ok z W:=λW=>by simp[zeroValue,typeInfo,hi,hz]
 have c1:¬(((sLen+m:aG):ay)>ar.max/\(zs=aj\/inf.bytes=0)):=by
  have:ar.max=9223372036854775807:=by decide
  rintro ⟨h,_⟩;omega
 have c2:¬(Ef (sLen+m) sCap*inf.bytes>2^48):=by
  have:=growslice_fits (need:=sLen+m) (old:=sCap) (bytes:=inf.bytes) (by omega) h48;have e:2^48=281474976710656:=by decide
  omega
 have Rg:(choose (.appendCap (sLen+m) sCap el)).run P w= .ok (grownCap w (sLen+m) sCap el) w.drew:=by rw[run_choose_drew];rfl
 have ajA:∀n W,(askRoom n).run P W= .ok () W:=λn W=>by simp only[askRoom];split<;>simp
 have zO:∀cs,(newRow el cs).run P w.drew= .ok (ad w.heap.size 0) (w.drew.alloc (.cells cs el)):=λcs=>by simp only[newRow,newObj,bV,nv,bk,cy];rfl
 unfold kF;rw[a_ h];simp only[bV,ht,bk,c1,c2,if_false,Rg,ajA,ho,ha,hzv,zO,cy,lO]
structure App (P:cC) (w:bw) (u:aG) (x:a7) (z:cX a7) (sz m:aG) (news:ax a7):Prop where
 h:(((∃e',P.underlying u=ah (.slice e'))\/P.underlying u=ah .string)/\(rQ x).run P w= .ok m w/\(fV sz m x).run P w= .ok news.toArray w/\(fV sz m x).run P w.drew= .ok news.toArray w.drew)\/
  ((∃k,P.underlying u=ah (.int k))/\(∃k',x= .int k' (m:ay))/\news=(fD z m).toList)
 len:news.length=m*sz
 one:∀v∈news,v.oneCell'=aj
structure XH (w w':bw) (p p':Pl) (m:aG) (news:ax a7):Prop where
 n:p'.n=p.n+m
 sz:p'.sz=p.sz
 nil:p'.nil=aj->p'.cap=0/\p.n=0/\m=0
 mem:p'.nil=ao->∃jo,o4 w' p'.blk jo/\p'.n<=p'.cap/\p'.cap<=maxLen/\p'.off+p'.cap*p'.sz<=jo.size/\
  (∀k u,k<p.n*p.sz->w.cell? (ad p.blk (p.off+k))=ah u->jo[p'.off+k]? =ah u)/\(∀k,k<m*p.sz->jo[p'.off+p.n*p.sz+k]? =news[k]?)
 blk:p'.nil=ao->(p.nil=ao/\p'.blk=p.blk)\/p'.blk=w.heap.size
 old:∀b,b<w.heap.size->(p'.nil=ao->b≠p'.blk)->w'.heap[b]? =w.heap[b]?
 size:w.heap.size<=w'.heap.size
 os:w'.os=w.os
 tape:w'.tape=w.tape
 output:w'.output=w.output
theorem xA{w:bw}{t u ty el:aG}{inf:AG}{z:a7}{p:Pl}{x:a7}{m:aG}{news:ax a7}(hu:P.underlying t=ah (.slice el))(hi:P.info? el=ah inf)(hz:inf.zero=ah z)(Zq:z.cells.size=p.sz)(hsz:inf.size=p.sz)
  (iq:p.nil=aj->p.n=0) (Ze:p.nil=ao->∃vals,o4 w p.blk vals/\p.n<=p.cap/\p.cap<=maxLen/\p.off+p.cap*p.sz<=vals.size)
  (hx:App P w u x z.cells p.sz m news) (h1:(p.n+m)*inf.bytes<=140737488355328) (h2:p.n+m<=9223372036854775807):
  ∃p' w',(j4 #[t,u] ty #[mb p,x]).run P w= .ok (mb p') w'/\XH w w' p p' m news:=by
 have hmb:m*inf.bytes<=140737488355328:=cm (cL _ (by omega)) h1;have hzv:∀W,(zeroValue el).run P W= .ok z W:=λW=>by simp[zeroValue,typeInfo,hi,hz]
 have hml:p.n+m<=maxLen:=by simp only[maxLen];omega
 have tail:∀(base:aA Addr) (sLen sCap:aG),∃(zs:aU) (app:Sem (cX a7)),(j4 #[t,u] ty #[.slice base sLen sCap,x]).run P w=(kF el p.sz base sLen sCap (.slice base sLen sCap) x zs m app).run P w/\
   app.run P w= .ok news.toArray w/\app.run P w.drew= .ok news.toArray w.drew:=by
  intro base sLen sCap
  rcases hx.h with ⟨hd,hl,hf,hf2⟩|⟨⟨k,hk⟩,⟨k',hxv⟩,hn⟩
  ·have:=wC (P:=P) (w:=w) (ty:=ty) hu hi hd (base:=base) (sLen:=sLen) (sCap:=sCap) hl;rw[hsz]at this;exact⟨_,_,this,hf,hf2⟩
  ·have:=Ao (P:=P) (w:=w) (ty:=ty) hu hi hk (base:=base) (sLen:=sLen) (sCap:=sCap) hxv (by omega) hmb;rw[hsz]at this;refine⟨_,_,this, ?_, ?_⟩
   ·rw[hn];split
    ·rename_i h0;have:fD z.cells m= #[]:=xC (by rw[size_zeroCells,Zq,h0]);rw[this];rfl
    ·simp only[bV,hzv,bk,cy,rP]
   ·rw[hn];split
    ·rename_i h0;have:fD z.cells m= #[]:=xC (by rw[size_zeroCells,Zq,h0]);rw[this];rfl
    ·simp only[bV,hzv,bk,cy,rP]
 have grow:∀(base:aA Addr) (sCap:aG) (tI:ax a7) (zs:aU) (app:Sem (cX a7)),¬p.n+m<=sCap->tI.length=p.n*p.sz->(∀k u,k<p.n*p.sz->w.cell? (ad p.blk (p.off+k))=ah u->tI[k]? =ah u)->
   (fV p.sz p.n (.slice base p.n sCap)).run P w.drew= .ok tI.toArray w.drew->app.run P w.drew= .ok news.toArray w.drew->
   ∃p' w',(kF el p.sz base p.n sCap (.slice base p.n sCap) x zs m app).run P w= .ok (mb p') w'/\XH w w' p p' m news:=by
  intro base sCap tI zs app hc HD SM hf ha
  have hr:=Bs (P:=P) (w:=w) (size:=p.sz) (zs:=zs) (x:=x) (base:=base) hi hz hc h2 h1 hf ha
  refine⟨⟨ao,w.heap.size,0,grownCap w (p.n+m) sCap el,p.n+m,p.sz⟩,_,hr,⟨rfl,rfl,λh=>(by cases h),λ_=> ?_,λ_=> .inr rfl,λb hb _=>heap_alloc_old w.drew _ b hb,by simp,rfl,rfl,rfl⟩⟩
  have Vu:=grownCap_ge w (p.n+m) sCap el
  refine⟨_,⟨_,_,heap_alloc_new w.drew _,λq _=>by simp⟩,Vu,grownCap_le_maxLen w _ _ _ hml, ?_,λk u hk qx=> ?_,λk hk=> ?_⟩
  ·simp only[Array.size_append,xI,size_zeroCells,Zq,HD,hx.len,<-dE,bG];exact cL _ (by omega)
  ·rw[bG,Iy,Bw (by simpa [HD]using hk),f_];exact SM k u hk qx
  ·rw[bG,Iy,Array.getElem?_append_right (by simp[HD]),Bw (by simp[HD,hx.len];omega),f_];congr 1;simp[HD]
 cases hq:p.nil with
 |true=>
  have hn:=iq hq;rw[nj hq];obtain⟨zs,app,hr,ha,ha2⟩:=tail ai 0 0;rw[hr];by_cases hm:m=0
  ·subst hm;refine⟨⟨aj,0,0,0,0,p.sz⟩,w,Bt ha,⟨by simp[hn],rfl,λ_=>⟨rfl,hn,rfl⟩,λh=>(by cases h),λh=>(by cases h),λ_ _ _=>rfl,bR _,rfl,rfl,rfl⟩⟩
  ·have:=grow ai 0 [] zs app (by omega) (by simp[hn]) (λk u hk=>by rw[hn]at hk;simp at hk) (by rw[hn];exact run_firstCells_none _ _ _ _ _) ha2;rwa[hn]at this
 |false=>
  rw[fa hq];obtain⟨vals,hb,Vy,hcm,mD⟩:=Ze hq;obtain⟨zs,app,hr,ha,ha2⟩:=tail (ah (ad p.blk p.off)) p.n p.cap;rw[hr];have hle:p.n*p.sz<=p.cap*p.sz:=cL _ Vy;by_cases hc:p.n+m<=p.cap
  ·have sO:p.off+p.n*p.sz+news.length<=vals.size:=by have:(p.n+m)*p.sz<=p.cap*p.sz:=cL _ hc;rw[dE]at this;rw[hx.len];omega
   have Ln:=oZ (P:=P) w hb sO hx.one;have hrr:=Bu (P:=P) (s:= .slice (ah (ad p.blk p.off)) p.n p.cap) (x:=x) (el:=el) (size:=p.sz) (zs:=zs) ha hc (by rw[Addr.mT];exact Ln);refine⟨⟨ao,p.blk,p.off,p.cap,p.n+m,p.sz⟩,_,hrr,⟨rfl,rfl,λh=>(by cases h),λ_=>⟨_,hb.setRow (iY sO),hc,hcm,by rw[iY sO];exact mD,λk u hk qx=> ?_,λk hk=> ?_⟩,λ_=> .inl ⟨hq,rfl⟩,λb _ Fo=>setRow_other w _ b _ (Fo rfl),by simp[iZ],rfl,rfl,rfl⟩⟩
   ·show(iC vals (p.off+p.n*p.sz) news)[p.off+k]? =ah u;rw[mh sO,a_ (by omega),<-hb.cell];exact qx
   ·show(iC vals (p.off+p.n*p.sz) news)[p.off+p.n*p.sz+k]? =news[k]?;rw[mh sO,ba (by rw[hx.len];omega)];congr 1;omega
  ·have hcell:∀k,k<p.n*p.sz->w.cell? (ad p.blk (p.off+k))=vals[p.off+k]? :=λk _=>hb.cell _;let tI:=(vals.toList.drop p.off).take (p.n*p.sz);have HD:tI.length=p.n*p.sz:=by simp only[tI,eg,il,dm];omega
   have SM:∀k u,k<p.n*p.sz->w.cell? (ad p.blk (p.off+k))=ah u->tI[k]? =ah u:=λk u hk qx=>by rw[hcell k hk]at qx;simp only[tI,dU,ba hk,dK,cz,qx]
   refine grow (ah (ad p.blk p.off)) p.cap tI zs app hc HD SM ?_ ha2;refine run_firstCells_some w.drew p.sz p.n _ _ _ tI HD (λj v hj=> ?_);have jB:j<p.n*p.sz:=by rw[<-HD];exact(aP.1 hj).1
   simp only[tI,dU,ba jB,dK,cz]at hj;rw[Addr.mT];have:=hcell j jB;rw[hj]at this;simpa using this
end
end Go.FG

