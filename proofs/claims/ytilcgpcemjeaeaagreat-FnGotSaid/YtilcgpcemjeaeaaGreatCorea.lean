/- An evaluator for the part of the language that this program uses, proved sound over the model: states told as values and lists; what an evaluation tells, the call does. No condition. -/
import Derived.Calls
import Derived.Orders
import Derived.Below
import Derived.Laws.AppendOwn
import Derived.Laws.Slices
import Derived.Laws.StructEq
import Derived.Laws.Tables
import Derived.Laws.MakeOwn
import Derived.Laws.IdiomStrings
import Derived.Laws.BytesArg
import Derived.Laws.NewFold
import Derived.SizedLaws
import Derived.Carry
import Derived.ProofKit
import Derived.KernelRfl
import Derived.Laws.Strings
set_option linter.unusedVariables false
set_option linter.unusedSimpArgs false
set_option maxRecDepth 100000
open Array renaming getElem?_eq_some_iff->dU,getD_eq_getD_getElem?->eJ,getElem?_setIfInBounds->oh,toArray_toList->t_,getElem?_toList->cX,ext'->sr,length_toList->dR,toList_map->Ak,getElem?_map->Oi,getElem?_extract->ea,eq_empty_of_size_eq_zero->Aj,append_assoc->Oh,getElem?_append_left->D8
open BitVec renaming ofInt->b_
open Bool renaming false->ak,true->ai,false_eq_true->dv,and_eq_true->aL,not_eq_true'->dx,and_assoc->nL,or_eq_false_iff->iG,not_false->bR,not_true->a_
open ByteArray renaming size_extract->yt,size_append->dJ,empty->HD,size->cj
open Go renaming IntKind->nq,Value->bk,Operand->dz,Oper->fA,World->bM,Program->c5,TypeInfo->Kb
open Go.Act renaming put->VQ,eval->HX
open Go.Builtin renaming len_->wj,max2->Eb,min2->Ec,clear_->oO,zeroCells->fL,nextslicecap->HE,firstCells->fy,lenOf->pD,append_->iu
open Go.Instr renaming loadAt->yI,sureAddr->uL,storeAt->WG,fieldAt->WD,indexAt->WE,sliceBound->qT,sliceBounds->m7,sliceAt->qu,fill->pE,buildSlice->zU
open Go.IntKind renaming i64->ao,wrap_i64->qa
open Go.Op renaming bytesLess->b7
open Go.Oper renaming wp->On
open Go.Region renaming binds->mN
open Go.Result renaming andThen_ok->bG
open Go.Sem renaming run_bind->ch,run_pure->cT,run->nr,run_ite->na
open Go.World renaming frozen?->ZU,cell?_of_block->uM,setRow->lH
open Int renaming toNat_natCast->dG,natCast_mul->WI
open List renaming mem_cons_of_mem->c7,mem_cons->cy,mem_cons_self->dn,mem_flatMap->bP,mem_of_getElem?->aR,append_nil->dm,length_nil->jO,getElem?_toArray->h_,append_assoc->cu,getElem?_append_left->dH,getElem?_take->d_,getElem?_append_right->da,getElem?_drop->dQ,length_eq_one_iff->gU,getElem?_cons_succ->dO,getD->ka,getElem?_map->bL,getElem_mem->bB,mem_map->cU,all_eq_true->bn,range->cw,getElem?_range->vG,getElem?_eq_none->kY,getElem?_eq_some_iff->aT,mem_of_mem_drop->kZ,mem_of_mem_take->k_,getElem?_of_mem->bY,map_toArray->Du,map_cons->fB,map_nil->BI,ext_getElem?->VU,eq_nil_of_length_eq_zero->gb,mem_append->ba,length_cons->db,foldl_cons->Dt,map_map->ml,map_congr_left->P7,size_toArray->VW,length_map->bU,getD_eq_getElem?_getD->cY,getElem?_set->P6,all_cons->sU,length_take->eK,length_drop->iz,length_singleton->bA,mem_append_left->bN,mem_append_right->bO,nodup_append->eL,length_set->cB,mem_or_eq_of_mem_set->jG,nodup_cons->kH,nil_append->gz,mem_singleton->aZ,getElem?_cons_zero->sA
open Nat renaming beq->bC,blt->qw,ble->fI,le_refl->cD,le_trans->dg,lt_of_lt_of_le->ju,eq_of_beq_eq_true->aU,add_zero->yL,add_assoc->lZ,le_of_ble_eq_true->cL,add_mul->dp,zero_le->bI,mul_le_mul_right->b8,eq_zero_or_pos->De,div_lt_iff_lt_mul->yu,mod_lt->Df,div_add_mod->JT,mul_comm->Ef,zero_add->bV,lt_or_gt_of_ne->P9,add_comm->iZ,sub_zero->yv,lt_irrefl->bm
open Option renaming some->ah,none->aj,map_some->je,getD_some->yM
open Option.some renaming inj->aJ,injEq->jA
open Prod.mk renaming inj->bW,injEq->jf
open UInt8 renaming ofNat->ay
open _root_ renaming Nat->aF,Int->aw,Bool->aW,ByteArray->aq,List->aA,Option->az,Array->dt,if_pos->bz,if_neg->bH,absurd->cJ,cond_true->au,cond_false->ax,decide_eq_true_eq->bc,of_decide_eq_true->cm,congrArg->lM
namespace Go.FG
inductive Ck where
 |i (k:nq)|b|s|l (e:aF)|o
inductive CV where
 |i (k:nq) (n:aw)|b (x:aW)|s (x:aq)|l (e:aF) (xs:aA (aA CV))
abbrev aQ:=aA (aA CV)
def CV.kd:CV->Ck
 | .i k _=> .i k| .b _=> .b| .s _=> .s| .l e _=> .l e
def bE:CV->aw| .i _ n=>n|_=>0
def cvB:CV->aW| .b x=>x|_=>ak
def bu:CV->aq| .s x=>x|_=>⟨#[]⟩
def jv:CV->aQ| .l _ xs=>xs|_=>[]
def ar(xs:aQ)(i j:aF):CV:=(xs.getD i []).getD j (.b ak)
inductive AV where
 |i (k:nq) (n:aw)|b (x:aW)|s (x:aq)
 |sh (e:aF) (xs:aQ)
 |nl
 |own (nm:aF)
 |vw (nm lo hi:aF)
 |bp (nm j:aF)
 |rp (nm i j:aF)
 |sp (e:aF) (xs:aQ) (i j:aF)
 |inn (nm i j:aF)
 |ip (nm i j i2 j2:aF)
 |fn (f:aF) (iT:aA (aA CV))
 |fp (xs:aA CV) (j:aF)
inductive SV where
 |v (agg:aW) (xs:aA AV)|j_ (xs:aA (aW×aA AV))|un
inductive Obj where
 |box (xs:aA AV)|n9 (xs:aA CV)|row (e:aF) (ex:aW) (xs:aQ)|fQ (e:aF) (xs:aQ)|dead
inductive eQ where
 |v (x:SV)|o (x:Obj)|jZ
def zu(n:aF):aW:=bC (n%1000) 999&&qw n 900000000
abbrev St:=aF->eQ
def pM(s:St)(k:aF)(c:eQ):St:=λn=>bif bC n k then c else s n
def wr(s:St):aA (aF×eQ)->St
 |[]=>s
 |(k,c)::r=>wr (pM s k c) r
def qq(n:aF):aF:=2*n
def c9(n:aF):aF:=2*n+1
inductive Rd (α:Type) where
 |ret (a:α)|fail|get (k:aF) (f:eQ->Rd α)
def Rd.bind{α β:Type}:Rd α->(α->Rd β)->Rd β
 | .ret a,f=>f a
 | .fail,_=> .fail
 | .get k g,f=> .get k λc=>(g c).bind f
def Rd.run{α:Type}:Rd α->St->aA aF->az (α×aA aF)
 | .ret a,_,l=>ah (a,l)
 | .fail,_,_=>aj
 | .get k f,s,l=>(f (s k)).run s (k::l)
structure TI where
 agg:aW
 ks:aA Ck
 bytes:aF
inductive AA where
 |i (k:nq) (n:aw)|b (x:aW)|s (x:aq)|sh (e:aF) (xs:aQ)|nl
 |ow (e:aF) (ex:aW) (xs:aQ)|kp (xs:aQ)|fn (f:aF) (iT:aA (aA CV))
inductive fj where
 |v (agg:aW) (xs:aA AA)|pt (xs:aA AA)|fb (xs:aA CV)
structure dB where
 rs:aA fj
 outs:aA (aA AA)
structure Tab where
 ty:aF->az TI
 fo:aF->aF->az (aF×aF)
 eqs:aA aF
 Sr:aF->aF->aW:=λ_ _=>ak
inductive Om where
 |nat|own (e:aF)|sh (e:aF)
structure fO extends Tab where
 call:aF->aA fj->az (aW×dB)
 om:aF->aF->Om
 mode:aF->aF->aW
 keep:aF->aA aF
 tk:aF->aW
instance:Coe fO Tab:=⟨fO.toTab⟩
structure sR where
 cond:aW
 ws:aA (aF×eQ)
def mJ(n:aF):aA aF->aW
 |[]=>ak|m::r=>bC n m||mJ n r
def cst:bk->SV
 | .int k n=> .v ak [.i k n]| .bool x=> .v ak [.b x]| .string x=>bif fI x.size 4611686018427387904 then .v ak [.s x]else .un
 | .slice aj 0 0=> .v ak [.nl]
 |_=> .un
def Hc(x:dz):Rd SV:=
 match x with
 | .tmp t=> .get (qq t) λ| .v x=> .ret x|_=> .ret .un
 | .const v=> .ret (cst v)
 | .func f=> .ret (.v ak [.fn f []])
 | .global _=> .fail
def jL(nm:aF):Rd Obj:= .get (c9 nm) λ| .o x=> .ret x|_=> .fail
def fresh(nm:aF):Rd Unit:= .get (c9 nm) λ| .jZ=>bif fI nm 899999999 then .ret ()else .fail|_=> .fail
def rS(x:dz):Rd AV:=(Hc x).bind λ| .v ak [a]=> .ret a|_=> .fail
def CA(x:dz):Rd (nq×aw):=(rS x).bind λ| .i k n=> .ret (k,n)|_=> .fail
def dw(o:fA)(v:SV):aA (aF×eQ):=match o.dst with|some d=>[(qq d, .v v)]|none=>[]
def val(o:fA)(v:SV):Rd sR:= .ret ⟨ai,dw o v⟩
def zP(o:fA)(v:AV):Rd sR:=val o (.v ak [v])
def LQ(o:fA)(c:aW)(v:AV):Rd sR:= .ret ⟨c,dw o (.v ak [v])⟩
def sM(E:fO)(t:aF):Rd TI:=match E.ty t with|some i=> .ret i|none=> .fail
def pV(E:fO)(t:aF):Rd Ck:=(sM E t).bind λti=>match ti.agg,ti.ks with|false,[k]=> .ret k|_,_=> .fail
def Da:Ck->AV
 | .i k=> .i k 0| .b=> .b ak| .s=> .s ⟨#[]⟩| .l _=> .nl| .o=> .nl
def zR:Ck->CV
 | .i k=> .i k 0| .b=> .b ak| .s=> .s ⟨#[]⟩| .l e=> .l e []| .o=> .b ak
def Lf(ks:aA Ck):aW:=ks.all λ| .o=>ak|_=>ai
def dec:Ck->CV->AV
 | .i k,x=> .i k (bE x)| .b,x=> .b (cvB x)| .s,x=> .s (bu x)| .l e,x=> .sh e (jv x)| .o,_=> .nl
def uZ(xs:aQ)(i:aF):aF->aA Ck->aA AV
 |_,[]=>[]
 |j,k::ks=>dec k (ar xs i j)::uZ xs i (j+1) ks
def AJ(nm:aF)(xs:aQ)(i:aF):aF->aA Ck->aA AV
 |_,[]=>[]
 |j, .l _::ks=> .inn nm i j::AJ nm xs i (j+1) ks
 |j,k::ks=>dec k (ar xs i j)::AJ nm xs i (j+1) ks
def Y0:CV->AV
 | .i k n=> .i k n| .b x=> .b x| .s x=> .s x| .l e xs=> .sh e xs
def iD{α:Type}(xs:aA α)(j:aF)(ys:aA α):aA α:=xs.take j++ys++xs.drop (j+ys.length)
def eD(xs:aQ)(i j:aF)(ys:aA CV):aQ:=xs.set i (iD (xs.getD i []) j ys)
def aAf(agg:aW)(xs:aA AV):SV:= .v agg xs
def e8(xs:aQ)(lo hi:aF):aQ:=(xs.drop lo).take (hi-lo)
def plain(ks:aA Ck):aW:=ks.all λ| .i _=>ai| .b=>ai| .s=>ai|_=>ak
def ckB:Ck->Ck->aW
 | .i a, .i b=>decide (a=b)| .b, .b=>ai| .s, .s=>ai| .l a, .l b=>bC a b| .o, .o=>ai|_,_=>ak
def ql:aA Ck->aA Ck->aW
 |[],[]=>ai|x::l,y::r=>ckB x y&&ql l r|_,_=>ak
def Iy(ex:aW)(k:Ck)(a:AV):Rd (CV×aA (aF×eQ)):=
 match k,a with
 | .i k, .i k' n=>if k=k' then .ret (.i k n,[])else .fail
 | .b, .b x=> .ret (.b x,[])
 | .s, .s x=> .ret (.s x,[])
 | .l e, .nl=> .ret (.l e [],[])
 | .l e, .sh e' xs=>bif bC e e'&& !ex then .ret (.l e xs,[])else .fail
 | .l e, .own nm=>(jL nm).bind λ
  | .row e' uo xs=>bif bC e e'&&uo then(bif ex then .ret (.l e xs,[(c9 nm, .o .dead)])else .fail)else .fail
  | .fQ e' xs=>bif bC e e'&& !ex then .ret (.l e xs,[])else .fail
  |_=> .fail
 |_,_=> .fail
def zl(ex:aW):aA Ck->aA AV->Rd (aA CV×aA (aF×eQ))
 |[],[]=> .ret ([],[])
 |k::ks,a::r=>(Iy ex k a).bind λ(c,w)=>(zl ex ks r).bind λ(cs,ws)=> .ret (c::cs,w++ws)
 |_,_=> .fail
def ah6:aA AV->aW
 |[]=>ai
 | .sh _ _::_=>ak
 |_::r=>ah6 r
end Go.FG

namespace Go.FG
def ad8(op:BinOp)(k:nq)(a b:aw):az (aW×AV):=
 match op with
 | .add=>ah (ai, .i k (k.wrap (a+b)))
 | .sub=>ah (ai, .i k (k.wrap (a-b)))
 | .mul=>ah (ai, .i k (k.wrap (a*b)))
 | .quo=>ah (!(b==0), .i k (k.wrap (a.tdiv b)))
 | .rem=>ah (!(b==0), .i k (a.tmod b))
 | .and=>ah (ai, .i k (k.wrap (b_ k.bits a&&&b_ k.bits b).toNat))
 | .or=>ah (ai, .i k (k.wrap (b_ k.bits a|||BitVec.ofInt k.bits b).toNat))
 | .xor=>ah (ai, .i k (k.wrap (b_ k.bits a^^^b_ k.bits b).toNat))
 | .eql=>ah (ai, .b (a==b))
 | .neq=>ah (ai, .b (a !=b))
 | .lss=>ah (ai, .b (decide (a<b)))
 | .leq=>ah (ai, .b (decide (a<=b)))
 | .gtr=>ah (ai, .b (decide (a>b)))
 | .geq=>ah (ai, .b (decide (a≥b)))
 |_=>aj
def ad_(op:BinOp)(a b:aq):az (aW×AV):=
 match op with
 | .add=>ah (decide (a.size+b.size<=4611686018427387904), .s (a++b))
 | .eql=>ah (ai, .b (a.toList==b.toList))
 | .neq=>ah (ai, .b (!(a.toList==b.toList)))
 | .lss=>ah (ai, .b (b7 a.toList b.toList))
 | .leq=>ah (ai, .b (b7 a.toList b.toList||a.toList==b.toList))
 | .gtr=>ah (ai, .b (!(b7 a.toList b.toList||a.toList==b.toList)))
 | .geq=>ah (ai, .b (!(b7 a.toList b.toList)))
 |_=>aj
def Xb:aA AV->aA AV->az aW
 |[],[]=>ah ai
 | .i k a::l, .i k' b::r=>if k=k' then(match Xb l r with|some t=>ah ((a==b)&&t)|none=>aj)else aj
 | .b a::l, .b b::r=>match Xb l r with|some t=>ah ((a==b)&&t)|none=>aj
 | .s a::l, .s b::r=>match Xb l r with|some t=>ah ((a.toList==b.toList)&&t)|none=>aj
 |_,_=>aj
def GZ:AV->Ck
 | .i k _=> .i k| .b _=> .b| .s _=> .s|_=> .o
def Ko(op:BinOp)(k:Ck):AV->AV->az (aW×AV)
 | .i k a, .i k' b=>if k=k' then ad8 op k a b else aj
 | .s a, .s b=>ad_ op a b
 | .b a, .b b=>match op,k with| .eql, .b=>ah (ai, .b (a==b))| .neq, .b=>ah (ai, .b (!(a==b)))|_,_=>aj
 |_,_=>aj
def shV(op:BinOp):AV->AV->az (aW×AV)
 | .i k a, .i _ b=>match op with
  | .shl=>ah (decide (0<=b), .i k (k.wrap (a*2^(min b.toNat k.bits))))
  | .shr=>ah (decide (0<=b), .i k (a.fdiv (2^(min b.toNat k.bits))))
  |_=>aj
 |_,_=>aj
def O9:BinOp->aW| .shl=>ai| .shr=>ai|_=>ak
def isEq:BinOp->aW| .eql=>ai| .neq=>ai|_=>ak
def Ue{α:Type}:az α->Rd α|some a=> .ret a|none=> .fail
def ad9(E:fO)(t:aF)(op:BinOp)(x y:SV):Rd (aW×AV):=
 match x,y with
 | .v ak [a], .v ak [b]=>bif O9 op then Ue (shV op a b)else(pV E t).bind λk=>Ue (Ko op k a b)
 | .v ai xs, .v ai ys=>(sM E t).bind λti=>
   bif isEq op&&mJ t E.eqs&&ql (xs.map GZ) ti.ks&&ql (ys.map GZ) ti.ks&&plain ti.ks then Ue (match Xb xs ys with|some r=>ah (ai,AV.b (match op with| .eql=>r|_=> !r))|none=>aj)else .fail
 |_,_=> .fail
def M0:aA AV->aA (aF×aA AV)->aA AV
 |z,[]=>z
 |z,(j,ys)::r=>M0 (iD z j ys) r
def Hd(E:fO)(t:aF):aA (aF×dz)->Rd (aA (aF×aA AV))
 |[]=> .ret []
 |(f,x)::r=>(Hc x).bind λ
  | .v _ ys=>match E.fo t f with
   |some (o,n)=>bif bC ys.length n then(Hd E t r).bind λl=> .ret ((o,ys)::l)else .fail
   |none=> .fail
  |_=> .fail
def mE(E:fO)(a:AV):Rd (aF×aQ):=
 match a with
 | .sh e xs=> .ret (e,xs)
 | .own nm=>(jL nm).bind λ| .row e _ xs=> .ret (e,xs)| .fQ e xs=> .ret (e,xs)|_=> .fail
 | .vw nm lo hi=>(jL nm).bind λ| .row e _ xs=> .ret (e,e8 xs lo hi)| .fQ e xs=> .ret (e,e8 xs lo hi)|_=> .fail
 | .inn nm i j=>(jL nm).bind λ
  | .row e ai xs=>(sM E e).bind λti=>match ti.ks[j]? with|some (.l e2)=> .ret (e2,jv (ar xs i j))|_=> .fail
  |_=> .fail
 |_=> .fail
def afc(E:fO)(k:Ck)(a:AV):Rd aw:=
 match k,a with
 | .s, .s x=> .ret x.size
 | .l _, .nl=> .ret 0
 | .l _, .vw nm lo hi=>(jL nm).bind λ| .row _ _ _=> .ret ((hi-lo:aF):aw)| .fQ _ _=> .ret ((hi-lo:aF):aw)|_=> .fail
 | .l _,a=>(mE E a).bind λ(_,xs)=> .ret xs.length
 |_,_=> .fail
def Ky(ex:aW)(ks:aA Ck):aA (aF×dz)->aQ->Rd (aQ×aA (aF×eQ))
 |[],z=> .ret (z,[])
 |(i,x)::r,z=>(Hc x).bind λ
  | .v _ ys=>bif fI (i+1) z.length then(zl ex ks ys).bind λ(cs,w)=>(Ky ex ks r (z.set i cs)).bind λ(z,ws)=> .ret (z,w++ws)else .fail
  |_=> .fail
def MW:aA (aF×dz)->Rd aW
 |[]=> .ret ai
 |(_,x)::r=>(Hc x).bind λ
  | .v _ ys=>(MW r).bind λb=> .ret (ah6 ys&&b)
  |_=> .fail
def aP(ks:aA Ck)(n:aF):aQ:=List.replicate n (ks.map zR)
def bytesOf(xs:aQ):aq:=⟨(xs.map λy=>ay (bE (y.getD 0 (.b ak))).toNat).toArray⟩
def qO(s:aq):aQ:=s.data.toList.map λb=>[.i .u8 (b.toNat:aw)]
def u8s:aA Ck->aW|[.i .u8]=>ai|_=>ak
def flat(E:fO)(ks:aA Ck):aW:=ks.all λ
 | .l e=>match E.ty e with|some ti=>plain ti.ks|none=>ak
 |_=>ai
def cC(n:aF)(bytes:aF):aW:=decide (n*bytes<=140737488355328)&&decide (n<=9223372036854775807)
def tD(E:fO)(ti:TI)(p:AV):Rd (aA AV):=
 match p with
 | .bp nm j=>(jL nm).bind λ
  | .box xs=>bif fI (j+ti.ks.length) xs.length then .ret ((xs.drop j).take ti.ks.length)else .fail
  | .n9 xs=>bif fI (j+ti.ks.length) xs.length then .ret (((xs.drop j).take ti.ks.length).map Y0)else .fail
  |_=> .fail
 | .fp xs j=>bif fI (j+ti.ks.length) xs.length then .ret (((xs.drop j).take ti.ks.length).map Y0)else .fail
 | .sp e xs i j=>(sM E e).bind λte=>bif ql ((te.ks.drop j).take ti.ks.length) ti.ks then .ret (uZ xs i j ti.ks)else .fail
 | .rp nm i j=>(jL nm).bind λ
  | .row e ex xs=>(sM E e).bind λte=>bif ql ((te.ks.drop j).take ti.ks.length) ti.ks then(bif ex&&zu nm then(bif plain ti.ks then .ret (uZ xs i j ti.ks)else .fail)else .ret (bif ex then AJ nm xs i j ti.ks else uZ xs i j ti.ks))else .fail
  | .fQ e xs=>(sM E e).bind λte=>bif ql ((te.ks.drop j).take ti.ks.length) ti.ks then .ret (uZ xs i j ti.ks)else .fail
  |_=> .fail
 | .ip nm i j i2 j2=>(jL nm).bind λ
  | .row e ai xs=>(sM E e).bind λte=>match te.ks[j]? with
   |some (.l e2)=>(sM E e2).bind λt2=>bif ql ((t2.ks.drop j2).take ti.ks.length) ti.ks then .ret (uZ (jv (ar xs i j)) i2 j2 ti.ks)else .fail
   |_=> .fail
  |_=> .fail
 |_=> .fail
def Hu(E:fO)(p:AV)(ys:aA AV):Rd (aA (aF×eQ)):=
 match p with
 | .bp nm j=>(jL nm).bind λ
  | .box xs=>bif fI (j+ys.length) xs.length then .ret [(c9 nm, .o (.box (iD xs j ys)))]else .fail
  |_=> .fail
 | .rp nm i j=>(jL nm).bind λ
  | .row e ex xs=>(sM E e).bind λte=>bif plain ((te.ks.drop j).take ys.length)then(zl ak ((te.ks.drop j).take ys.length) ys).bind λ(cs,_)=> .ret [(c9 nm, .o (.row e ex (eD xs i j cs)))]else .fail
  |_=> .fail
 | .ip nm i j i2 j2=>(jL nm).bind λ
  | .row e ai xs=>(sM E e).bind λte=>match te.ks[j]? with
   |some (.l e2)=>(sM E e2).bind λt2=>bif plain t2.ks then(zl ak ((t2.ks.drop j2).take ys.length) ys).bind λ(cs,_)=>
    .ret [(c9 nm, .o (.row e ai (eD xs i j [.l e2 (eD (jv (ar xs i j)) i2 j2 cs)])))]else .fail
   |_=> .fail
  |_=> .fail
 |_=> .fail
def Jn:aA AV->aW
 |[]=>ai
 | .own _::_=>ak
 |_::r=>Jn r
def zD:aF->aA AV->az (aF×aF)
 |_,[]=>aj
 |q, .own n::r=>bif Jn r then ah (q,n)else aj
 |q,_::r=>zD (q+1) r
def DL(e2 n2:aF)(zs:aQ):aA Ck->aA AV->az (aA CV)
 |[],[]=>ah []
 | .i k::ks, .i k' x::r=>if k=k' then(DL e2 n2 zs ks r).map (.i k x:: ·)else aj
 | .b::ks, .b x::r=>(DL e2 n2 zs ks r).map (.b x:: ·)
 | .s::ks, .s x::r=>(DL e2 n2 zs ks r).map (.s x:: ·)
 | .l e::ks, .own n::r=>bif bC e e2&&bC n n2 then(DL e2 n2 zs ks r).map (.l e2 zs:: ·)else aj
 |_,_=>aj
def Ht(E:fO)(n i j:aF)(ys:aA AV):Rd (aA (aF×eQ)):=
 (jL n).bind λ
 | .row e ai xs=>(sM E e).bind λte=>match zD 0 ys with
  |some (q,n2)=>bif bC n n2 then .fail else(jL n2).bind λ
   | .row e2 ai zs=>(sM E e2).bind λt2=>bif plain t2.ks&&fI (j+ys.length) te.ks.length then(match DL e2 n2 zs ((te.ks.drop j).take ys.length) ys with
    |some cs=> .ret [(c9 n, .o (.row e ai (eD xs i j cs))),(c9 n2, .o .dead)]
    |none=> .fail)else .fail
   |_=> .fail
  |none=> .fail
 |_=> .fail
def Vt(E:fO)(p:AV)(ys:aA AV):Rd (aA (aF×eQ)):=
 match p with
 | .rp n i j=>bif zu n then Ht E n i j ys else Hu E (.rp n i j) ys
 |p=>Hu E p ys
def Sk(E:fO)(t:aF)(f:aF)(p:AV):Rd AV:=
 match E.fo t f with
 |none=> .fail
 |some (o,_)=>match p with
  | .bp nm j=> .ret (.bp nm (j+o))
  | .rp nm i j=> .ret (.rp nm i (j+o))
  | .sp e xs i j=> .ret (.sp e xs i (j+o))
  | .ip nm i j i2 j2=> .ret (.ip nm i j i2 (j2+o))
  | .fp xs j=> .ret (.fp xs (j+o))
  |_=> .fail
def SR(E:fO)(e:aF)(x:AV)(n:aw):Rd (aW×AV):=
 match x with
 | .sh e' xs=>bif bC e e' then .ret (decide (0<=n)&&decide (n<(xs.length:aw)), .sp e' xs n.toNat 0)else .fail
 | .own nm=>(jL nm).bind λ
  | .row e' _ xs=>bif bC e e' then .ret (decide (0<=n)&&decide (n<(xs.length:aw)), .rp nm n.toNat 0)else .fail
  | .fQ e' xs=>bif bC e e' then .ret (decide (0<=n)&&decide (n<(xs.length:aw)), .rp nm n.toNat 0)else .fail
  |_=> .fail
 | .vw nm lo hi=>(jL nm).bind λ
  | .row e' _ xs=>bif bC e e' then .ret (decide (0<=n)&&decide (n<((hi-lo:aF):aw)), .rp nm (lo+n.toNat) 0)else .fail
  | .fQ e' xs=>bif bC e e' then .ret (decide (0<=n)&&decide (n<((hi-lo:aF):aw)), .rp nm (lo+n.toNat) 0)else .fail
  |_=> .fail
 | .inn nm i j=>(jL nm).bind λ
  | .row e1 ai xs=>(sM E e1).bind λte=>match te.ks[j]? with
   |some (.l e')=>bif bC e e' then .ret (decide (0<=n)&&decide (n<((jv (ar xs i j)).length:aw)), .ip nm i j n.toNat 0)else .fail
   |_=> .fail
  |_=> .fail
 |_=> .fail
def n_(x:az dz)(d:aw):Rd aw:=
 match x with
 |none=> .ret d
 |some x=>(CA x).bind λ(_,n)=> .ret n
def g9(l h n:aw):aW:=decide (0<=l)&&decide (l<=h)&&decide (h<=n)
def UK(e:aF)(x:AV)(lo hi:az dz):Rd (aW×AV):=
 match x with
 | .sh e' xs=>bif bC e e' then(n_ lo 0).bind λl=>(n_ hi xs.length).bind λh=> .ret (g9 l h xs.length, .sh e' (e8 xs l.toNat h.toNat))else .fail
 | .own nm=>(jL nm).bind λ
  | .row e' _ xs=>bif bC e e' then(n_ lo 0).bind λl=>(n_ hi xs.length).bind λh=> .ret (g9 l h xs.length, .vw nm l.toNat h.toNat)else .fail
  | .fQ e' xs=>bif bC e e' then(n_ lo 0).bind λl=>(n_ hi xs.length).bind λh=> .ret (g9 l h xs.length, .vw nm l.toNat h.toNat)else .fail
  |_=> .fail
 | .vw nm a b=>(jL nm).bind λ
  | .row e' _ _=>bif bC e e' then(n_ lo 0).bind λl=>(n_ hi ((b-a:aF):aw)).bind λh=> .ret (g9 l h ((b-a:aF):aw), .vw nm (a+l.toNat) (a+h.toNat))else .fail
  | .fQ e' _=>bif bC e e' then(n_ lo 0).bind λl=>(n_ hi ((b-a:aF):aw)).bind λh=> .ret (g9 l h ((b-a:aF):aw), .vw nm (a+l.toNat) (a+h.toNat))else .fail
  |_=> .fail
 | .nl=>(n_ lo 0).bind λl=>(n_ hi 0).bind λh=> .ret (g9 l h 0, .nl)
 |_=> .fail
def LH(E:fO)(k:Ck)(x:AV)(lo hi:az dz):Rd (aW×AV):=
 match k,x with
 | .s, .s a=>(n_ lo 0).bind λl=>(n_ hi a.size).bind λh=> .ret (g9 l h a.size, .s (a.extract l.toNat h.toNat))
 | .l e,x=>(sM E e).bind λ_=>UK e x lo hi
 |_,_=> .fail
def wP(e:aF)(s:AV):Rd (aW×aQ×aA aF):=
 match s with
 | .nl=> .ret (ai,[],[])
 | .own nm=>(jL nm).bind λ
  | .row e' ex xs=>bif bC e e' then .ret (ex,xs,[nm])else .fail
  |_=> .fail
 | .vw nm lo hi=>(jL nm).bind λ
  | .row e' ex xs=>bif bC e e' then .ret (ex,e8 xs lo hi,[nm])else .fail
  |_=> .fail
 |_=> .fail
def TC(E:fO)(tF e:aF)(ks:aA Ck)(b:aA aF)(x:AV):Rd (aW×aQ×aA (aF×eQ)):=
 match x with
 | .s a=>bif u8s ks then .ret (ai,qO a,[])else .fail
 | .nl=> .ret (ai,[],[])
 | .sh e' xs=>bif bC e e' then .ret (plain ks,xs,[])else .fail
 | .own nm=>(jL nm).bind λ
  | .row e' ex xs=>bif bC e e' then
    (bif plain ks|| !ex then .ret (plain ks,xs,[])
    else bif mJ nm b then .fail
    else bif E.tk tF then .ret (ak,xs,[(c9 nm, .o (.fQ e xs))])else .ret (ai,xs,[(c9 nm, .o .dead)]))else .fail
  | .fQ e' xs=>bif bC e e' then .ret (plain ks,xs,[])else .fail
  |_=> .fail
 | .vw nm lo hi=>(jL nm).bind λ
  | .row e' ex xs=>bif bC e e' then
    (bif plain ks|| !ex then .ret (plain ks,e8 xs lo hi,[])
    else bif mJ nm b then .fail
    else bif E.tk tF then .ret (ak,e8 xs lo hi,[(c9 nm, .o (.fQ e xs))])else .fail)else .fail
  | .fQ e' xs=>bif bC e e' then .ret (plain ks,e8 xs lo hi,[])else .fail
  |_=> .fail
 | .inn nm i j=>bif plain ks then(mE E (.inn nm i j)).bind λ(e',xs)=>bif bC e e' then .ret (ai,xs,[])else .fail else .fail
 |_=> .fail
def oq(b:aA aF):aA (aF×eQ):=b.map λn=>(c9 n, .o .dead)
def Gq(E:fO)(tF:aF)(t:aF)(s x:AV):Rd (aW×AV×aA (aF×eQ)):=
 (sM E t).bind λti=>match ti.agg,ti.ks with
 |false,[.l e]=>(sM E e).bind λte=>bif Lf te.ks then(wP e s).bind λ(Dh,xs,b)=>
  (TC E tF e te.ks b x).bind λ(AK,ys,w2)=>(fresh tF).bind λ_=>
  .ret (cC (xs.length+ys.length) te.bytes, .own tF,oq b++(w2++[(c9 tF, .o (.row e (Dh&&AK) (xs++ys)))]))else .fail
 |_,_=> .fail
def VN(E:fO)(tF:aF)(t:aF)(s:AV)(n:aw):Rd (aW×AV×aA (aF×eQ)):=
 (sM E t).bind λti=>match ti.agg,ti.ks with
 |false,[.l e]=>(sM E e).bind λte=>bif Lf te.ks&&flat E te.ks then(wP e s).bind λ(ex,xs,b)=>(fresh tF).bind λ_=>
  .ret (decide (0<=n)&&cC (xs.length+n.toNat) te.bytes&&decide (n<=9223372036854775807), .own tF,oq b++[(c9 tF, .o (.row e ex (xs++aP te.ks n.toNat)))])else .fail
 |_,_=> .fail
def R_(E:fO)(e:aF)(x:AV):Rd (aA (aF×eQ)):=
 match x with
 | .own nm=>(jL nm).bind λ
  | .row e' ex xs=>(sM E e).bind λte=>bif bC e e'&&plain te.ks then .ret [(c9 nm, .o (.row e' ex (aP te.ks xs.length)))]else .fail
  |_=> .fail
 | .vw nm lo hi=>(jL nm).bind λ
  | .row e' ex xs=>(sM E e).bind λte=>bif bC e e'&&plain te.ks then .ret [(c9 nm, .o (.row e' ex (xs.take lo++aP te.ks (hi-lo)++xs.drop hi)))]else .fail
  |_=> .fail
 | .nl=> .ret []
 |_=> .fail
def im(mx:aW)(a b:aw):aw:=bif mx then(if b>a then b else a)else(if b<a then b else a)
def xG(mx:aW):aA dz->nq->aw->Rd AV
 |[],k,a=> .ret (.i k a)
 |x::r,k,a=>(CA x).bind λ(_,b)=>xG mx r k (im mx a b)
end Go.FG

namespace Go.FG
inductive Src where
 |own (nm e:aF) (ex:aW)|no
structure Pk where
 a:AA
 src:Src
 rd:aA aF
def Af(E:fO)(mt:aW)(a:AV):Rd Pk:=
 match a with
 | .i k n=> .ret ⟨.i k n, .no,[]⟩| .b x=> .ret ⟨.b x, .no,[]⟩| .s x=> .ret ⟨.s x, .no,[]⟩
 | .sh e xs=> .ret ⟨.sh e xs, .no,[]⟩
 | .nl=> .ret ⟨.nl, .no,[]⟩
 | .fn f iT=> .ret ⟨.fn f iT, .no,[]⟩
 | .own nm=>(jL nm).bind λ
  | .row e ex xs=>bif mt then .ret ⟨.ow e ex xs, .own nm e ex,[]⟩else .ret ⟨.sh e xs, .no,[nm]⟩
  | .fQ e xs=> .ret ⟨.sh e xs, .no,[]⟩
  |_=> .fail
 | .vw nm lo hi=>bif mt then .fail else(jL nm).bind λ
  | .row e _ xs=> .ret ⟨.sh e (e8 xs lo hi), .no,[nm]⟩
  | .fQ e xs=> .ret ⟨.sh e (e8 xs lo hi), .no,[]⟩
  |_=> .fail
 | .inn nm i j=>(jL nm).bind λ
  | .row e ai xs=>(sM E e).bind λte=>match te.ks[j]? with
   |some (.l e2)=>(sM E e2).bind λt2=>bif plain t2.ks&& !mt then .ret ⟨.sh e2 (jv (ar xs i j)), .no,[nm]⟩else .fail
   |_=> .fail
  |_=> .fail
 |_=> .fail
def CI(E:fO)(mt:aW):aA AV->Rd (aA Pk)
 |[]=> .ret []
 |a::r=>(Af E mt a).bind λp=>(CI E mt r).bind λl=> .ret (p::l)
structure Pa where
 arg:fj
 box:az (aF×aA AV)
 cs:aA Pk
def ad4(E:fO)(mt:aW)(x:SV):Rd Pa:=
 match x with
 | .v ak [.bp nm 0]=>bif mt then(jL nm).bind λ
   | .box xs=>(CI E ai xs).bind λl=> .ret ⟨.pt (l.map (·.a)),ah (nm,xs),l⟩
   |_=> .fail
  else .fail
 | .v agg xs=>(CI E mt xs).bind λl=> .ret ⟨.v agg (l.map (·.a)),aj,l⟩
 |_=> .fail
def YW:Ck->AV->AV
 | .l e, .nl=> .sh e []
 |_,a=>a
def Cw:aA Ck->aA AV->aA AV
 |k::ks,a::r=>YW k a::Cw ks r
 |_,r=>r
def nlz(E:Tab)(t:az aF)(v:SV):SV:=
 match t with
 |none=>v
 |some t=>match E.ty t,v with
  |some ti, .v g xs=> .v g (Cw ti.ks xs)
  |_,v=>v
def RY(E:fO)(f:aF)(Qq:az (aA aF)):aF->aA dz->Rd (aA Pa)
 |_,[]=> .ret []
 |p,x::r=>(Hc x).bind λv=>(ad4 E (E.mode f p) (bif E.mode f p then v else nlz E (match Qq with|some l=>l[p]? |none=>aj) v)).bind λa=>bif fI a.cs.length 100 then(RY E f Qq (p+1) r).bind λl=> .ret (a::l)else .fail
def Pk.uw(p:Pk):aA aF:=match p.src with| .own nm _ _=>[nm]| .no=>[]
def Pa.uw(p:Pa):aA aF:=(match p.box with|some (nm,_)=>[nm]|none=>[])++p.cs.flatMap (·.uw)
def Pa.nI(p:Pa):aA aF:=p.cs.flatMap (·.rd)
def tG:aA aF->aW
 |[]=>ai|n::r=> !mJ n r&&tG r
def rH:aA aF->aA aF->aW
 |[],_=>ai|n::r,l=> !mJ n l&&rH r l
def rJ(ok:aW)(nm:aF)(a:AA):Rd (AV×aA (aF×eQ)):=
 match a with
 | .i k n=> .ret (.i k n,[])| .b x=> .ret (.b x,[])| .s x=> .ret (.s x,[])| .nl=> .ret (.nl,[])
 | .sh e xs=>bif ok then .ret (.sh e xs,[])else .fail
 | .ow e ex xs=>bif ex||ok then(fresh nm).bind λ_=> .ret (.own nm,[(c9 nm, .o (.row e ex xs))])else .fail
 |_=> .fail
def A4(ok:aW):aF->aA AA->Rd (aA AV×aA (aF×eQ))
 |_,[]=> .ret ([],[])
 |nm,a::r=>(rJ ok nm a).bind λ(v,w)=>(A4 ok (nm+1) r).bind λ(vs,ws)=> .ret (v::vs,w++ws)
def Gt(ok:aW)(nm:aF)(a:fj):Rd ((aW×aA AV)×aA (aF×eQ)):=
 match a with
 | .v agg xs=>(A4 ok nm xs).bind λ(vs,ws)=> .ret ((agg,vs),ws)
 | .pt xs=>(A4 ok nm xs).bind λ(vs,ws)=>(fresh (nm+30)).bind λ_=> .ret ((ak,[.bp (nm+30) 0]),ws++[(c9 (nm+30), .o (.box vs))])
 | .fb _=> .fail
def BR(ok:aW):aF->aA fj->Rd (aA (aW×aA AV)×aA (aF×eQ))
 |_,[]=> .ret ([],[])
 |nm,a::r=>(Gt ok nm a).bind λ(v,w)=>(BR ok (nm+40) r).bind λ(vs,ws)=> .ret (v::vs,w++ws)
def EY(ok:aW)(p:Pk)(a:AA):Rd (aA (aF×eQ)):=
 match p.src,a with
 | .no,_=> .ret []
 | .own nm e ex, .kp xs=>bif ex||ok then .ret [(c9 nm, .o (.row e ex xs))]else .fail
 | .own nm _ _, .nl=> .ret [(c9 nm, .o .dead)]
 |_,_=> .fail
def Lt(ok:aW):aA Pk->aA AA->Rd (aA (aF×eQ))
 |[],_=> .ret []
 |p::r,l=>(EY ok p (l.headD .nl)).bind λw=>(Lt ok r l.tail).bind λws=> .ret (w++ws)
def CD(ok:aW)(nm:aF)(p:Pk)(v:AV)(a:AA):Rd (AV×aA (aF×eQ)):=
 match p.src,a with
 | .own n e ex, .kp xs=>bif ex||ok then .ret (v,[(c9 n, .o (.row e ex xs))])else .fail
 | .own n _ _,a=>(rJ ok nm a).bind λ(v,w)=> .ret (v,(c9 n, .o .dead)::w)
 | .no,a=>rJ ok nm a
def rT(ok:aW):aF->aA Pk->aA AV->aA AA->Rd (aA AV×aA (aF×eQ))
 |_,[],[],[]=> .ret ([],[])
 |nm,p::ps,v::vs,a::as=>(CD ok nm p v a).bind λ(v,w)=>(rT ok (nm+1) ps vs as).bind λ(vs,ws)=> .ret (v::vs,w++ws)
 |_,_,_,_=> .fail
def Uf(ok:aW)(nm:aF)(p:Pa)(l:aA AA):Rd (aA (aF×eQ)):=
 match p.box with
 |some (n,vs)=>(rT ok nm p.cs vs l).bind λ(vs,ws)=> .ret (ws++[(c9 n, .o (.box vs))])
 |none=>Lt ok p.cs l
def Ls(ok:aW):aF->aA Pa->aA (aA AA)->Rd (aA (aF×eQ))
 |_,[],_=> .ret []
 |nm,p::r,l=>(Uf ok nm p (l.headD [])).bind λw=>(Ls ok (nm+40) r l.tail).bind λws=> .ret (w++ws)
def sj:aA (aW×aA AV)->SV
 |[(agg,xs)]=> .v agg xs
 |l=> .j_ l
def nv:fj->aF| .v _ xs=>xs.length| .pt xs=>xs.length| .fb _=>0
def Sv:aA aF->Rd (aA (aF×eQ))
 |[]=> .ret []
 |n::r=>(jL n).bind λ
  | .row e _ xs=>(Sv r).bind λws=> .ret ((c9 n, .o (.fQ e xs))::ws)
  |_=> .fail
def Gz(E:fO)(nm:aF)(o:fA)(f:aF)(args:aA dz)(Qq:az (aA aF))(iT:aA (aA CV)):Rd sR:=
 (RY E f Qq 0 args).bind λps=>
  bif tG (ps.flatMap (·.uw))&&rH (ps.flatMap (·.uw)) (ps.flatMap (·.nI))then
   match E.call f (ps.map (·.arg)++iT.map fj.fb)with
   |some (c,r)=>bif fI ps.length 400&&(r.rs.all λa=>fI (nv a) 30)&&(r.outs.all λa=>fI a.length 100)then(Sv (bif E.tk nm then ps.flatMap (·.nI)else [])).bind λw0=>
    (Ls (E.tk nm||(ps.flatMap (·.nI)).isEmpty) (nm+400) ps r.outs).bind λw1=>(BR (E.tk nm||(ps.flatMap (·.nI)).isEmpty) (nm+1) r.rs).bind λ(vs,w2)=>
    bif tG ((w1++w2).map (·.1))then .ret ⟨c,w0++(w1++w2)++dw o (sj vs)⟩else .fail else .fail
   |none=> .fail
  else .fail
def Rd.or{α:Type}:Rd α->Rd α->Rd α
 | .ret a,_=> .ret a
 | .fail,y=>y
 | .get k f,y=> .get k λc=>(f c).or y
def MM(E:fO)(nm:aF)(o:fA)(f:aF)(args:aA dz)(Qq:aA aF)(iT:aA (aA CV)):Rd sR:=
 (Gz E nm o f args aj iT).or (Gz E nm o f args (ah Qq) iT)
def Co(E:fO)(o:fA)(f n i j:aF)(y:dz):Rd sR:=
 (CA y).bind λ(k,m)=>(jL n).bind λ
  | .row e ai xs=>(sM E e).bind λte=>match te.ks[j]? with
   |some (.l e2)=>match E.call f [.v ak [.ow e2 ai (jv (ar xs i j))], .v ak [.i k m]]with
    |some (c,r)=>match r.rs,r.outs with
     |[.v ak [.i k2 m2]],[[.kp ys]]=> .ret ⟨c,(c9 n, .o (.row e ai (eD xs i j [.l e2 ys])))::dw o (.v ak [.i k2 m2])⟩
     |_,_=> .fail
    |none=> .fail
   |_=> .fail
  |_=> .fail
def R6:aA dz->Rd (aA (aA CV)×aA (aF×eQ))
 |[]=> .ret ([],[])
 |x::r=>(rS x).bind λ
  | .bp nm 0=>(jL nm).bind λ
   | .box xs=>(aea xs).bind λcs=>(R6 r).bind λ(l,ws)=> .ret (cs::l,(c9 nm, .o (.n9 cs))::ws)
   | .n9 cs=>(R6 r).bind λ(l,ws)=> .ret (cs::l,ws)
   |_=> .fail
  |_=> .fail
where aea:aA AV->Rd (aA CV)
 |[]=> .ret []
 |a::r=>(aea r).bind λl=>match a with
  | .i k n=> .ret (.i k n::l)| .b x=> .ret (.b x::l)| .s x=> .ret (.s x::l)
  | .sh e xs=> .ret (.l e xs::l)
  |_=> .fail
def me(E:fO)(nm:aF)(o:fA):Rd sR:=
 match o.op with
 | .move x| .assign x=>(Hc x).bind λv=>val o v
 | .nilCheck x=>(rS x).bind λp=>match p with
  | .bp nm j=>val o (.v ak [.bp nm j])
  | .rp nm i j=>val o (.v ak [.rp nm i j])
  |_=> .fail
 | .pick c a b=>(rS c).bind λc=>(Hc a).bind λa=>(Hc b).bind λb=>
  match c,a,b with
  | .b c, .v ak [.b p], .v ak [.b q]=>zP o (.b (bif c then p else q))
  | .b c, .j_ [],b=> .ret ⟨!c,dw o b⟩
  | .b c,a, .j_ []=> .ret ⟨c,dw o a⟩
  |_,_,_=> .fail
 | .alloc t=>(sM E t).bind λti=>bif Lf ti.ks then(fresh nm).bind λ_=> .ret ⟨ai,(c9 nm, .o (.box (ti.ks.map Da)))::dw o (.v ak [.bp nm 0])⟩else .fail
 | .box t x=>(Hc x).bind λ
  | .v _ xs=>(fresh nm).bind λ_=> .ret ⟨ai,(c9 nm, .o (.box xs))::dw o (.v ak [.bp nm 0])⟩
  |_=> .fail
 | .build t ps=>(sM E t).bind λti=>bif Lf ti.ks&&ti.agg then(Hd E t ps.toList).bind λl=>val o (.v ai (M0 (ti.ks.map Da) l))else .fail
 | .buildSlice t n ps=>(sM E t).bind λti=>match ti.agg,ti.ks with
  |false,[.l e]=>(sM E e).bind λte=>bif Lf te.ks then(MW ps.toList).bind λex=>(Ky (ex&&flat E te.ks) te.ks ps.toList (aP te.ks n)).bind λ(xs,w)=>(fresh nm).bind λ_=>
   .ret ⟨fI (n*te.ks.length) 16777216&&tG (w.map (·.1)),w++(c9 nm, .o (.row e (ex&&flat E te.ks) xs))::dw o (.v ak [.own nm])⟩else .fail
  |_,_=> .fail
 | .load t p=>(sM E t).bind λti=>(rS p).bind λp=>(tD E ti p).bind λxs=>val o (.v ti.agg xs)
 | .store t p x=>(sM E t).bind λti=>(rS p).bind λp=>(Hc x).bind λ
  | .v _ ys=>bif bC ys.length ti.ks.length then(Vt E p ys).bind λw=> .ret ⟨ai,w++dw o .un⟩else .fail
  |_=> .fail
 | .fieldAddr t p f=>(rS p).bind λp=>(Sk E t f p).bind λq=>zP o q
 | .field t x f=>(Hc x).bind λ
  | .v ai xs=>match E.fo t f with
   |some (j,n)=>bif E.Sr t f&&bC n 1 then(match xs.drop j with|a::_=>zP o a|[]=> .fail)else .fail
   |none=> .fail
  |_=> .fail
 | .indexAddr t x i=>(pV E t).bind λ
  | .l e=>(rS x).bind λx=>(CA i).bind λ(_,n)=>(SR E e x n).bind λ(c,q)=>LQ o c q
  |_=> .fail
 | .index t x i=>(pV E t).bind λk=>(rS x).bind λx=>(CA i).bind λ(_,n)=>match k,x with
  | .s, .s a=>LQ o (decide (0<=n)&&decide (n<(a.size:aw))) (.i .u8 ((a.data.getD n.toNat 0).toNat:aw))
  |_,_=> .fail
 | .binOp op t x y _=>(Hc x).bind λx=>(Hc y).bind λy=>(ad9 E t op x y).bind λ(c,v)=>LQ o c v
 | .unOp op _ x=>(rS x).bind λx=>match op,x with
  | .not, .b x=>zP o (.b (!x))
  | .neg, .i k n=>zP o (.i k (k.wrap (0-n)))
  |_,_=> .fail
 | .convert src dst x=>(pV E src).bind λks=>(pV E dst).bind λkd=>(rS x).bind λx=>match kd,ks,x with
  | .i k, .i _, .i _ n=>zP o (.i k (k.wrap n))
  | .s, .s, .s a=>zP o (.s a)
  | .s, .l e', .nl=>(sM E e').bind λte=>bif u8s te.ks&& !te.agg then zP o (.s ⟨#[]⟩)else .fail
  | .s, .l e',a=>(mE E a).bind λ(e,xs)=>(sM E e).bind λte=>bif bC e e'&&u8s te.ks&& !te.agg then LQ o (decide (xs.length<=4611686018427387904)) (.s (bytesOf xs))else .fail
  |_,_,_=> .fail
 | .makeSlice t l c=>(CA l).bind λ(_,n)=>(CA c).bind λ(_,m)=>(sM E t).bind λti=>match ti.agg,ti.ks with
  |false,[.l e]=>(sM E e).bind λte=>bif Lf te.ks&&flat E te.ks then(fresh (bif plain te.ks then nm else nm+999)).bind λ_=> .ret ⟨decide (0<=n)&&decide (n=m)&&cC n.toNat te.bytes,(c9 (bif plain te.ks then nm else nm+999), .o (.row e ai (aP te.ks n.toNat)))::dw o (.v ak [.own (bif plain te.ks then nm else nm+999)])⟩else .fail
  |_,_=> .fail
 | .slice t x lo hi mx=>match mx with
  |some _=> .fail
  |none=>(pV E t).bind λk=>(rS x).bind λx=>(LH E k x lo hi).bind λ(c,v)=>LQ o c v
 | .extract x i=>(Hc x).bind λ
  | .j_ l=>match l[i]? with|some (agg,xs)=>val o (.v agg xs)|none=> .fail
  |_=> .fail
 | .makeFunc (.func f) first iT=>bif first.isEmpty then(R6 iT.toList).bind λ(l,ws)=> .ret ⟨ai,ws++dw o (.v ak [.fn f l])⟩else .fail
 | .call c=>match c.callee with
  | .builtin .len=>match c.args.toList,c.argTypes.toList with
   |[x],[t]=>(pV E t).bind λk=>(rS x).bind λx=>(afc E k x).bind λn=>zP o (.i .i64 n)
   |_,_=> .fail
  | .builtin .cap=>match c.args.toList,c.argTypes.toList with
   |[x],[t]=>(pV E t).bind λ| .l _=>((rS x).bind λ| .nl=>zP o (.i .i64 0)|_=> .fail)|_=> .fail
   |_,_=> .fail
  | .builtin .min=>match c.args.toList with
   |x::r=>(CA x).bind λ(k,n)=>(xG ak r k n).bind λv=>zP o v
   |_=> .fail
  | .builtin .max=>match c.args.toList with
   |x::r=>(CA x).bind λ(k,n)=>(xG ai r k n).bind λv=>zP o v
   |_=> .fail
  | .builtin .clear=>match c.args.toList with
   |[x]=>match c.argTypes.toList with
    |[t]=>(pV E t).bind λ| .l e=>((rS x).bind λx=>(R_ E e x).bind λw=> .ret ⟨ai,w++dw o (.j_ [])⟩)|_=> .fail
    |_=> .fail
   |_=> .fail
  | .builtin .append=>match c.args.toList,c.argTypes.toList with
   |[s,x],[t,u]=>(pV E u).bind λku=>(rS s).bind λs=>(rS x).bind λx=>match ku,x with
    | .i _, .i _ n=>(VN E nm t s n).bind λ(b,v,w)=> .ret ⟨b,w++dw o (.v ak [v])⟩
    | .l _,x=>(Gq E nm t s x).bind λ(b,v,w)=> .ret ⟨b,w++dw o (.v ak [v])⟩
    | .s,x=>(Gq E nm t s x).bind λ(b,v,w)=> .ret ⟨b,w++dw o (.v ak [v])⟩
    |_,_=> .fail
   |_,_=> .fail
  | .value f=>(rS f).bind λ
   | .fn f iT=>match c.args.toList,iT with
    |[x,y],[]=>(Hc x).bind λ
     | .v ak [.inn n i j]=>bif E.mode f 0 then Co E o f n i j y else MM E nm o f c.args.toList c.argTypes.toList iT
     |_=>MM E nm o f c.args.toList c.argTypes.toList iT
    |_,_=>MM E nm o f c.args.toList c.argTypes.toList iT
   |_=> .fail
  |_=> .fail
 |_=> .fail
inductive Ex where
 |normal|exit (id:aF)|ret
structure Lg where
 rs:aA aF
 ws:aA aF
def M6{R:Type}(a:AV)(f:AV->R):R:=
 match a with
 | .i k n=>f (.i k n)| .b x=>f (.b x)| .s x=>f (.s x)| .sh e xs=>f (.sh e xs)| .nl=>f .nl| .own n=>f (.own n)| .vw n lo hi=>f (.vw n lo hi)
 | .bp n j=>f (.bp n j)| .rp n i j=>f (.rp n i j)| .sp e xs i j=>f (.sp e xs i j)| .inn n i j=>f (.inn n i j)| .ip n i j i2 j2=>f (.ip n i j i2 j2)| .fn g iT=>f (.fn g iT)| .fp xs j=>f (.fp xs j)
def GI{R:Type}(a:aW)(f:aW->R):R:=match a with|true=>f ai|false=>f ak
def pk{R:Type}:aA AV->(aA AV->R)->R
 |[],f=>f []|a::r,f=>M6 a λa=>pk r λr=>f (a::r)
def GK{R:Type}:aA (aW×aA AV)->(aA (aW×aA AV)->R)->R
 |[],f=>f []|(g,xs)::r,f=>GI g λg=>pk xs λxs=>GK r λr=>f ((g,xs)::r)
def GJ{R:Type}(v:SV)(f:SV->R):R:=
 match v with
 | .v g xs=>GI g λg=>pk xs λxs=>f (.v g xs)| .j_ l=>GK l λl=>f (.j_ l)| .un=>f .un
def KI{R:Type}(o:Obj)(f:Obj->R):R:=
 match o with
 | .box xs=>pk xs λxs=>f (.box xs)| .n9 cs=>f (.n9 cs)| .row e ex xs=>GI ex λex=>f (.row e ex xs)| .fQ e xs=>f (.fQ e xs)| .dead=>f .dead
def KH{R:Type}(c:eQ)(f:eQ->R):R:=
 match c with
 | .v x=>GJ x λx=>f (.v x)| .o x=>KI x λx=>f (.o x)| .jZ=>f .jZ
def Cc{R:Type}:aA (aF×eQ)->(aA (aF×eQ)->R)->R
 |[],f=>f []|(k,c)::r,f=>KH c λc=>Cc r λr=>f ((k,c)::r)
theorem KG{R:Type}(a:AV)(f:AV->R):M6 a f=f a:=by cases a<;>rfl
theorem zo{R:Type}(a:aW)(f:aW->R):GI a f=f a:=by cases a<;>rfl
theorem nS{R:Type}:∀(l:aA AV) (f:aA AV->R),pk l f=f l
 |[],_=>rfl
 |a::r,f=>by simp only[pk,KG,nS r]
theorem EF{R:Type}:∀(l:aA (aW×aA AV)) (f:aA (aW×aA AV)->R),GK l f=f l
 |[],_=>rfl
 |(g,xs)::r,f=>by simp only[GK,zo,nS,EF r]
theorem KJ{R:Type}(v:SV)(f:SV->R):GJ v f=f v:=by cases v<;>simp only[GJ,zo,nS,EF]
theorem OQ{R:Type}(v:Obj)(f:Obj->R):KI v f=f v:=by cases v<;>simp only[KI,zo,nS]
theorem OP{R:Type}(v:eQ)(f:eQ->R):KH v f=f v:=by cases v<;>simp only[KH,KJ,OQ]
theorem EG{R:Type}:∀(l:aA (aF×eQ)) (f:aA (aF×eQ)->R),Cc l f=f l
 |[],_=>rfl
 |(k,c)::r,f=>by simp only[Cc,OP,EG r]
def ops{R:Type}(E:fO)(all:dt fA)(oc:aF):aF->aA fA->St->aA Lg->(St->aA Lg->az R)->az R
 |_,[],σ,lg,K=>K σ lg
 |i,o::rest,σ,lg,K=>match o.guard with
  |none=>match (me E ((oc+1)*1000000+i*1000) o).run σ []with
   |some (e,l)=>bif e.cond then Cc e.ws (λws=>ops E all oc (i+1) rest (wr σ ws) (⟨l,ws.map (·.1)⟩::lg) K)else aj
   |none=>aj
  |some (g,want)=>match (all.getD g default).dst with
   |none=>aj
   |some d=>match σ (qq d)with
    | .v (.v ak [.b x])=>
     let perform:=λy=>match (me E ((oc+1)*1000000+i*1000) o).run (pM σ (qq d) (.v (.v ak [.b y]))) []with
      |some (e,l)=>bif e.cond then Cc e.ws (λws=>ops E all oc (i+1) rest (wr (pM σ (qq d) (.v (.v ak [.b y]))) ws) (⟨qq d::l,ws.map (·.1)⟩::lg) K)else aj
      |none=>aj
     let skip:=λy=>ops E all oc (i+1) rest (wr (pM σ (qq d) (.v (.v ak [.b y]))) (dw o (.j_ []))) (⟨[qq d],(dw o (.j_ [])).map (·.1)⟩::lg) K
     bif x then(bif want then perform ai else skip ai)else(bif want then skip ak else perform ak)
    | .v (.j_ [])=>ops E all oc (i+1) rest (wr σ (dw o (.j_ []))) (⟨[qq d],(dw o (.j_ [])).map (·.1)⟩::lg) K
    |_=>aj
def ddA(acc:aA aF):aA aF->aA aF
 |[]=>acc|n::r=>bif mJ n acc then ddA acc r else ddA (n::acc) r
def mU{R:Type}:aA aF->(aA aF->R)->R
 |[],f=>f []|n::r,f=>mU r λr=>f (n::r)
def Bf{R:Type}:aA (aA aF)->(aA (aA aF)->R)->R
 |[],f=>f []|n::r,f=>mU n λn=>Bf r λr=>f (n::r)
theorem oS{R:Type}:∀(l:aA aF) (f:aA aF->R),mU l f=f l
 |[],_=>rfl
 |n::r,f=>by simp only[mU,oS r]
theorem Cb{R:Type}:∀(l:aA (aA aF)) (f:aA (aA aF)->R),Bf l f=f l
 |[],_=>rfl
 |n::r,f=>by simp only[Bf,oS,Cb r]
theorem GA:∀(l acc:aA aF) (x:aF),x∈ddA acc l->x∈acc\/x∈l
 |[],_,_,h=> .inl h
 |n::r,acc,x,h=>by
  unfold ddA at h;cases hb:mJ n acc with
  |true=>
   rw[hb]at h;rcases GA r acc x h with h|h
   ·exact .inl h
   ·exact .inr (c7 _ h)
  |false=>
   rw[hb]at h;rcases GA r (n::acc) x h with h|h
   ·rcases cy.1 h with rfl|h
    ·exact .inr dn
    ·exact .inl h
   ·exact .inr (c7 _ h)
def Gn:aA (aA aF)->aA fA->aA (aA aF)
 |acc,[]=>acc
 |acc,o::r=>mU (ddA [] (o.after.toList.flatMap λe=>bif mN .any e then e.on::acc.getD e.on []else [])) λx=>Gn (acc++[x]) r
def Js:aF->aA fA->aW
 |_,[]=>ai
 |i,o::r=>(o.after.toList.all λe=> !Region.binds .any e||Nat.blt e.on i)&&Js (i+1) r
def B2(a b:Lg):aW:= !(rH a.ws b.ws&&rH a.ws b.rs&&rH b.ws a.rs)
def A_(an:aA aF)(j:aF)(a:Lg):aF->aA Lg->aW
 |_,[]=>ai
 |i,b::r=>(mJ i an|| !B2 a b)&&A_ an j a (i+1) r
def calm:aF->aA (aA aF)->aA Lg->aA Lg->aW
 |_,_,_,[]=>ai
 |j,an,done,a::r=>A_ (an.getD j []) j a 0 done&&calm (j+1) an (done++[a]) r
def Be{R:Type}:aA Lg->(aA Lg->R)->R
 |[],f=>f []|a::r,f=>mU a.rs λrs=>mU a.ws λws=>Be r λr=>f (⟨rs,ws⟩::r)
theorem Ca{R:Type}:∀(l:aA Lg) (f:aA Lg->R),Be l f=f l
 |[],_=>rfl
 |n::r,f=>by simp only[Be,oS,Ca r]
def MN(an:aA (aA aF))(l:aA Lg):aW:=Bf an λan=>Be l λl=>calm 0 an [] l
theorem R5(an:aA (aA aF))(l:aA Lg):MN an l=calm 0 an [] l:=by simp only[MN,Cb,Ca]
def bQ:AV->aA aF
 | .own n=>[n]| .vw n _ _=>[n]| .bp n _=>[n]| .rp n _ _=>[n]| .inn n _ _=>[n]| .ip n _ _ _ _=>[n]|_=>[]
def cM:SV->aA aF
 | .v _ xs=>xs.flatMap bQ| .j_ l=>l.flatMap λ(_,xs)=>xs.flatMap bQ| .un=>[]
def WR:aA aF->aA aF->aA aF
 |l,[]=>l
 |l,n::r=>mU (bif mJ n l then l else l++[n]) λl=>WR l r
def slot(σ:St)(n:aF):SV:=match σ (qq n)with| .v x=>x|_=> .un
def ajo(σ:St)(nm:aF):aA aF:=match σ (c9 nm)with| .o (.box xs)=>xs.flatMap bQ|_=>[]
def idx(n:aF):aF->aA aF->az aF
 |_,[]=>aj|i,m::r=>bif bC n m then ah i else idx n (i+1) r
def enc(f:aW)(k:aF):aF:=bif f then k*1000+999 else k
def v_(l:aA aF)(n:aF):az aF:=bif fI 900000000 n then(bif mJ n l then ah n else aj)else(match idx n 0 l with|some k=>ah (enc (zu n) k)|none=>aj)
def pX(l:aA aF)(a:AV):AV:=
 match a with
 | .own n=>match v_ l n with|some k=> .own k|none=> .nl
 | .vw n lo hi=>match v_ l n with|some k=> .vw k lo hi|none=> .nl
 | .bp n j=>match v_ l n with|some k=> .bp k j|none=> .nl
 | .rp n i j=>match v_ l n with|some k=> .rp k i j|none=> .nl
 | .inn n i j=>match v_ l n with|some k=> .inn k i j|none=> .nl
 | .ip n i j i2 j2=>match v_ l n with|some k=> .ip k i j i2 j2|none=> .nl
 |a=>a
def zw(l:aA aF)(ns:aA aF):aW:=ns.all λn=>mJ n l
def E0(l:aA aF)(v:SV):SV:=
 bif zw l (cM v)then(match v with
 | .v agg xs=> .v agg (xs.map (pX l))| .j_ r=> .j_ (r.map λ(g,xs)=>(g,xs.map (pX l)))| .un=> .un)else .un
def PF(l:aA aF)(o:eQ):eQ:=
 match o with
 | .o (.box xs)=>bif zw l (xs.flatMap bQ)then .o (.box (xs.map (pX l)))else .o .dead
 | .o x=> .o x
 |_=> .o .dead
def fK:aA (aF×eQ)->St
 |[],_=> .jZ
 |(k,c)::r,n=>bif bC n k then c else fK r n
def v7(σ:St)(l:aA aF):aA aF->aA (aF×eQ)
 |[]=>[]|n::r=>match v_ l n with|some k=>(c9 k,PF l (σ (c9 n)))::v7 σ l r|none=>v7 σ l r
def Kr(keep:aA aF)(σ:St):aA aF:=
 mU (WR [] (keep.flatMap λn=>cM (slot σ n))) λl0=>mU (WR l0 (l0.flatMap (ajo σ))) λl1=>WR l1 (l1.flatMap (ajo σ))
def Kq(keep:aA aF)(σ:St)(l:aA aF):aA (aF×eQ):=
 bif fI l.length 900 then keep.map (λn=>(qq n, .v (E0 l (slot σ n))))++v7 σ l l else []
def XP(x:aF):aW:=fI 1000000000000000 x
def abp(x:aF):aF:=(x/1000000)%1000000000
def Tc(x:aF):aF:=(x/1000)%1000
def kTy(x:aF):aF:=x%1000
def kNm(x:aF):aF:=800000000+((x/1000)%1000000)*100
def Ae{α:Type}(x:aF)(σ:St)(f:St->α):α:=
 match slot σ (abp x)with
 | .v ak [.bp nm 0]=>match σ (c9 nm),σ (c9 (kNm x))with
  | .o (.box xs), .jZ=>match xs[Tc x]? with
   |some .nl=>pk (xs.set (Tc x) (.own (kNm x))) λys=>f (pM (pM σ (c9 nm) (.o (.box ys))) (c9 (kNm x)) (.o (.row (kTy x) ai [])))
   |_=>f σ
  |_,_=>f σ
 |_=>f σ
def Nr{α:Type}:aA aF->St->(St->α)->α
 |[],σ,f=>f σ
 |x::r,σ,f=>bif XP x then Ae x σ (λσ=>Nr r σ f)else Nr r σ f
def Ks(keep:aA aF)(σ:St):aA (aF×eQ):=Nr keep σ λσ=>mU (keep.filter λx=> !XP x) λkeep=>mU (Kr keep σ) λl=>Kq keep σ l
def canon(keep:aA aF)(σ:St):St:=fK (Ks keep σ)
def fO.Ab(E:fO)(n:aF):aA aF:=(E.keep n).filter λx=>bif XP x then(match E.ty (kTy x)with|some _=>ai|none=>ak)else ai
def gC:Code->aF
 | .region id _ _=>id| .seq a _=>gC a| .block _ c=>gC c| .scope c=>gC c|_=>0
def EN{R:Type}(g:St->az R)(cn:St->St)(K:Ex->St->az R):Ex->St->az R
 | .normal,σ=>g (cn σ)
 |e,σ=>K e (cn σ)
def iter{R:Type}(f:St->(Ex->St->az R)->az R)(cn:St->St):aF->St->(Ex->St->az R)->az R
 |0,_,_=>aj
 |n+1,σ,K=>f σ (EN (λs=>iter f cn n s K) cn K)
theorem O_{R:Type}(f:St->(Ex->St->az R)->az R)(cn:St->St)(n:aF)(σ:St)(K:Ex->St->az R):iter f cn (n+1) σ K=f σ (EN (λs=>iter f cn n s K) cn K):=rfl
abbrev It(R:Type):=aF->(St->(Ex->St->az R)->az R)->(St->St)->aA (aF×eQ)->(Ex->St->az R)->az R
def awc{R:Type}(n:aF):It R:=λ_ f cn L K=>iter f cn n (fK L) K
def au5{R:Type}(f:St->(Ex->St->az R)->az R)(K:Ex->St->az R):Ex->St->az R
 | .normal,σ=>f σ K
 |e,σ=>K e σ
def aqO{R:Type}(id:aF)(K:Ex->St->az R):Ex->St->az R
 | .exit j,σ=>bif bC j id then K .normal σ else K (.exit j) σ
 |e,σ=>K e σ
def tn{R:Type}(E:fO)(it:It R):Code->St->(Ex->St->az R)->az R
 | .skip,σ,K=>K .normal σ
 | .region id os draw,σ,K=>ops E os id 0 os.toList σ [] λσ lg=>bif !draw||(Js 0 os.toList&&MN (Gn [] os.toList) lg.reverse)then K .normal σ else aj
 | .seq a b,σ,K=>tn E it a σ (au5 (tn E it b) K)
 | .cond c a b,σ,K=>match c with
  | .tmp t=>match σ (qq t)with
   | .v (.v ak [.b x])=>bif x then(tn E it a (pM σ (qq t) (.v (.v ak [.b ai]))) K)else(tn E it b (pM σ (qq t) (.v (.v ak [.b ak]))) K)
   |_=>aj
  |_=>aj
 | .block id c,σ,K=>tn E it c σ (aqO id K)
 | .loop c,σ,K=>it (gC c) (tn E it c) (canon (E.Ab (gC c))) (Ks (E.Ab (gC c)) σ) K
 | .exit id,σ,K=>K (.exit id) σ
 | .ret,σ,K=>K .ret σ
 |_,_,_=>aj
def jT:Code->aA Code
 | .seq a b=>jT a++jT b
 | .cond _ a b=>jT a++jT b
 | .block _ c=>jT c
 | .loop c=>c::jT c
 |_=>[]
def Cp(oc:aF):Code->az Code
 | .seq a b=>match Cp oc a with|some r=>ah r|none=>Cp oc b
 | .cond _ a b=>match Cp oc a with|some r=>ah r|none=>Cp oc b
 | .block _ c=>Cp oc c
 | .loop c=>bif bC (gC c) oc then ah c else Cp oc c
 |_=>aj
def bX(F:Func)(oc:aF):Code:=((F.body.bind (Cp oc)).getD .skip)
end Go.FG

namespace Go.FG
def dS(p j:aF):aF:=900000000+p*1000+j
def lB(nm:aF)(a:AA):AV:=
 match a with
 | .i k n=> .i k n| .b x=> .b x| .s x=> .s x| .sh e xs=> .sh e xs| .nl=> .nl
 | .ow _ _ _=> .own nm| .kp _=> .nl| .fn f iT=> .fn f iT
def EM(nm:aF)(a:AA):aA (aF×eQ):=match a with| .ow e ex xs=>[(c9 nm, .o (.row e ex xs))]|_=>[]
def gu(nm:aF):aA AA->aA AV
 |[]=>[]|a::r=>lB nm a::gu (nm+1) r
def tw(nm:aF):aA AA->aA (aF×eQ)
 |[]=>[]|a::r=>EM nm a++tw (nm+1) r
def tz(p:aF)(a:fj):SV:=
 match a with
 | .v agg xs=> .v agg (gu (dS p 0) xs)
 | .pt _=> .v ak [.bp (dS p 900) 0]
 | .fb xs=> .v ak [.fp xs 0]
def vj(p:aF)(a:fj):aA (aF×eQ):=
 match a with
 | .v _ xs=>tw (dS p 0) xs
 | .pt xs=>(c9 (dS p 900), .o (.box (gu (dS p 0) xs)))::tw (dS p 0) xs
 | .fb _=>[]
def K3:aF->aA fj->aA (aF×eQ)
 |_,[]=>[]|p,a::r=>(qq p, .v (tz p a))::vj p a++K3 (p+1) r
def inj(args:aA fj):St:=fK (K3 0 args)
def z_(E:fO)(e:aF):aW:=match E.ty e with|some _=>ai|none=>ak
def z8(E:fO)(om:Om)(σ:St)(k:Ck)(a:AV):az (AA×aA aF×aA aF):=
 match a with
 | .i k n=>ah (.i k n,[],[])| .b x=>ah (.b x,[],[])| .s x=>ah (.s x,[],[])
 | .sh e xs=>match om with| .own _=>aj|_=>ah (.sh e xs,[],[])
 | .nl=>match om with
  | .own e=>bif z_ E e then ah (.ow e ai [],[],[])else aj
  | .sh e=>ah (.sh e [],[],[])
  | .nat=>match k with| .l e=>bif z_ E e then ah (.ow e ai [],[],[])else aj|_=>ah (.nl,[],[])
 | .own nm=>match σ (c9 nm)with
  | .o (.row e ex xs)=>match om with| .sh _=>ah (.sh e xs,[],[nm])|_=>ah (.ow e ex xs,[nm],[])
  | .o (.fQ e xs)=>match om with| .own _=>aj|_=>ah (.sh e xs,[],[])
  |_=>aj
 | .vw nm lo hi=>match σ (c9 nm)with
  | .o (.row e ex xs)=>match om with| .sh _=>ah (.sh e (e8 xs lo hi),[],[nm])|_=>ah (.ow e ex (e8 xs lo hi),[nm],[])
  | .o (.fQ e xs)=>match om with| .own _=>aj|_=>ah (.sh e (e8 xs lo hi),[],[])
  |_=>aj
 |_=>aj
def tp(E:fO)(q:aF)(σ:St):aF->aA Ck->aA AV->az (aA AA×aA aF×aA aF)
 |_,_,[]=>ah ([],[],[])
 |j,ks,a::r=>match z8 E (E.om q j) σ (ks.headD .o) a,tp E q σ (j+1) ks.tail r with
  |some (x,l,m),ah (xs,ls,ms)=>ah (x::xs,l++ls,m++ms)
  |_,_=>aj
def M3(E:fO)(q:aF)(σ:St)(ks:aA Ck)(v:SV):az (fj×aA aF×aA aF):=
 match v with
 | .v ak [.bp nm 0]=>match σ (c9 nm)with
  | .o (.box xs)=>match tp E q σ 0 [] xs with|some (l,ns,ms)=>ah (.pt l,nm::ns,ms)|none=>aj
  |_=>aj
 | .v agg xs=>match tp E q σ 0 ks xs with|some (l,ns,ms)=>ah (.v agg l,ns,ms)|none=>aj
 |_=>aj
def UA(E:fO)(q:aF)(σ:St)(r:ResultVar)(t:aF):az (fj×aA aF×aA aF):=
 match E.ty t with
 |none=>aj
 |some ti=>match r with
  | .tmp s=>M3 E q σ ti.ks (slot σ s)
  | .cell a t'=>match E.ty t',slot σ a with
   |some Vx, .v ak [.bp nm 0]=>match σ (c9 nm)with| .o (.box xs)=>bif bC xs.length Vx.ks.length then M3 E q σ ti.ks (.v Vx.agg xs)else aj|_=>aj
   |_,_=>aj
def CM(E:fO)(σ:St):aF->aA ResultVar->aA aF->az (aA fj×aA aF×aA aF)
 |_,[],_=>ah ([],[],[])
 |q,r::rs,ts=>match UA E q σ r (ts.headD 0),CM E σ (q+1) rs ts.tail with
  |some (a,l,m),ah (as,ls,ms)=>ah (a::as,l++ls,m++ms)
  |_,_=>aj
def JG(a b:aW):aW:=bif a then b else !b
def nz(σ:St)(tk:aA aF)(nm:aF)(a:AA):AA×aA aF:=
 match a with
 | .ow e ex _=>bif mJ nm tk then(.nl,[])else(match σ (c9 nm)with| .o (.row e' uo xs)=>bif bC e e'&&JG ex uo then(.kp xs,[nm])else(.nl,[])|_=>(.nl,[]))
 |_=>(.nl,[])
def pU(σ:St)(tk:aA aF)(nm:aF):aA AA->aA AA×aA aF
 |[]=>([],[])|a::r=>((nz σ tk nm a).1::(pU σ tk (nm+1) r).1,(nz σ tk nm a).2++(pU σ tk (nm+1) r).2)
def aam(E:fO)(om:Om)(σ:St)(nm:aF)(b:AA)(a:AV):az (AA×aA aF×aA aF):=
 match om,b,a with
 | .nat, .ow e ex _, .own n=>bif bC n nm then(match σ (c9 n)with| .o (.row e' uo xs)=>bif bC e e'&&JG ex uo then ah (.kp xs,[n],[])else aj|_=>aj)else z8 E om σ .o a
 |_,_,a=>z8 E om σ .o a
def Gu(E:fO)(q:aF)(σ:St):aF->aA AA->aA AV->az (aA AA×aA aF×aA aF)
 |_,_,[]=>ah ([],[],[])
 |j,bs,a::r=>match aam E (E.om q j) σ (dS q j) (bs.headD .nl) a,Gu E q σ (j+1) bs.tail r with
  |some (x,l,m),ah (xs,ls,ms)=>ah (x::xs,l++ls,m++ms)
  |_,_=>aj
def Sz:aA AA->aW
 |[]=>ak| .ow _ _ _::_=>ai|_::r=>Sz r
def CF(E:fO)(σ:St)(tk:aA aF):aF->aA fj->az (aA (aA AA)×aA aF×aA aF)
 |_,[]=>ah ([],[],[])
 |p,a::r=>match CF E σ tk (p+1) r with
  |none=>aj
  |some (l,ns,ms)=>match a with
   | .v _ xs=>bif Sz xs then ah ((pU σ tk (dS p 0) xs).1::l,(pU σ tk (dS p 0) xs).2++ns,ms)else ah ([]::l,ns,ms)
   | .pt xs=>match σ (c9 (dS p 900))with
    | .o (.box vs)=>match Gu E p σ 0 xs vs with|some (as,ns',ms')=>ah (as::l,dS p 900::(ns'++ns),ms'++ms)|none=>aj
    |_=>aj
   | .fb _=>ah ([]::l,ns,ms)
def um:aA (aA AA)->aA (aA AA)
 |[]=>[]
 |x::r=>match x,um r with|[],[]=>[]|x,r=>x::r
def fin(E:fO)(F:Func)(args:aA fj)(e:Ex)(σ:St):az dB:=
 match e with
 | .exit _=>aj
 |_=>match CM E σ 500 F.results.toList F.resultTypes.toList with
  |some (rs,tk,fz)=>match CF E σ (tk++fz) 0 args with
   |some (outs,ns,ms)=>bif tG (tk++ns)&&rH (tk++ns) (fz++ms)&&fI args.length 500&&(args.all λa=>fI (nv a) 100)&&(rs.all λa=>fI (nv a) 100)&&(outs.all λa=>fI a.length 100)then ah ⟨rs,um outs⟩else aj
   |none=>aj
  |none=>aj
def body(E:fO)(it:It dB)(F:Func)(args:aA fj):az dB:=
 match F.body with
 |some c=>tn E it c (inj args) (fin E F args)
 |none=>aj
end Go.FG

namespace Go.FG
structure Pl where
 nil:aW
 blk:aF
 off:aF
 cap:aF
 n:aF
 sz:aF
def lS(p:Pl):bk:=if p.nil=ai then .slice aj 0 0 else .slice (ah ⟨p.blk,p.off,aj⟩) p.n p.cap
def nW(w:bM)(b:aF)(vals:dt bk):Prop:=
 ∃t fr,w.heap[b]? =ah (.cells vals t fr)/\∀o,o<=vals.size->(decide (fr.1<=o)&&decide (o<fr.2))=ak
def PQ:CV->bk
 | .i k n=> .int k n| .b x=> .bool x| .s x=> .string x| .l _ _=> .nilIface
def DX(x:aq):Prop:=x.size<=4611686018427387904
def okC:CV->Prop
 | .s x=>DX x|_=>True
def Sc(u:bk)(x:CV):Prop:=u=PQ x/\okC x
structure e9 where
 P:aF->Pl
 G:aF->aF->aF->Pl
 K:aF->Prop
abbrev ad(b o:aF):Addr:=⟨b,o,aj⟩
inductive c_ (E:Tab) (w:bM) (K:aF->Prop):bk->CV->Prop
 |i (k n):c_ E w K (.int k n) (.i k n)
 |b (x):c_ E w K (.bool x) (.b x)
 |s (x) (h:DX x):c_ E w K (.string x) (.s x)
 |nl (e A c):c_ E w K (.slice A 0 c) (.l e [])
 |l (e xs b o c ti) (U:aF->aF->bk) (ht:E.ty e=ah ti) (hc:xs.length<=c) (hm:c<=maxLen) (hK:K b) (hs:∀y∈xs,y.map CV.kd=ti.ks)
  (hcell:∀i j y x,xs[i]? =ah y->y[j]? =ah x->w.cell? (ad b (o+i*ti.ks.length+j))=ah (U i j))
  (gq:∀i j y x,xs[i]? =ah y->y[j]? =ah x->c_ E w K (U i j) x):c_ E w K (.slice (ah (ad b o)) xs.length c) (.l e xs)
theorem nW.cell{w:bM}{b:aF}{vals:dt bk}(h:nW w b vals)(o:aF):w.cell? (ad b o)=vals[o]? :=by obtain⟨t,fr,h,_⟩:=h;simp[World.cell?,h]
theorem nW.lt{w:bM}{b:aF}{vals:dt bk}(h:nW w b vals):b<w.heap.size:=by obtain⟨t,fr,h,_⟩:=h;exact(dU.1 h).1
theorem nW.free{w:bM}{b:aF}{vals:dt bk}(h:nW w b vals){o:aF}(ho:o<vals.size):w.frozen? (ad b o)=false:=by obtain⟨t,fr,h,hf⟩:=h;have:=hf o (Nat.le_of_lt ho);simpa [ZU,h]using this
theorem nW.frame{w w':bM}{b:aF}{vals:dt bk}(h:nW w b vals)(e:w'.heap[b]? =w.heap[b]?):nW w' b vals:=by obtain⟨t,fr,h,hf⟩:=h;exact⟨t,fr,e.trans h,hf⟩
theorem c_.frame{E:Tab}{w w':bM}{K K':aF->Prop}{v:bk}{x:CV}(h:c_ E w K v x)(hw:∀b,K b->w'.heap[b]? =w.heap[b]?)(hK:∀b,K b->K' b):c_ E w' K' v x:=by
 induction h with
 |i=>exact .i _ _
 |b=>exact .b _
 |s x h=>exact .s _ h
 |nl=>exact .nl _ _ _
 |l e xs b o c ti U ht hc hm hKb hs hcell gq ih=>exact .l e xs b o c ti U ht hc hm (hK b hKb) hs (λi j y x h1 h2=>(uM (a:=ad b _) (hw b hKb)).trans (hcell i j y x h1 h2)) (λi j y x h1 h2=>ih i j y x h1 h2)
structure jh (w:bM) (p:Pl) (xs:aQ) (R:aF->aF->bk->CV->Prop):Prop where
 n:p.n=xs.length
 nil:p.nil=ai->xs=[]/\p.cap=0
 mem:p.nil=ak->∃vals,nW w p.blk vals/\p.n<=p.cap/\p.cap<=maxLen/\p.off+p.cap*p.sz<=vals.size/\
  ∀(i:aF) (y:aA CV) (j:aF) (x:CV),xs[i]? =ah y->y[j]? =ah x->∃u:bk,vals[p.off+i*p.sz+j]? =ah u/\R i j u x
def XC(E:Tab)(w:bM)(G:aF->aF->Pl)(i j:aF)(u:bk):CV->Prop
 | .l e ys=>u=lS (G i j)/\∃ti,E.ty e=ah ti/\plain ti.ks=ai/\(G i j).sz=ti.ks.length/\(∀y∈ys,y.map CV.kd=ti.ks)/\jh w (G i j) ys (λ_ _ u x=>Sc u x)
 |x=>Sc u x
def ur:CV->aW| .l _ _=>ai|_=>ak
def gh(xs:aQ)(i j:aF):Prop:=∃y x,xs[i]? =ah y/\y[j]? =ah x/\ur x=ai
structure Fv (p:Pl) (G:aF->aF->Pl) (xs:aQ):Prop where
 out:∀i j,gh xs i j->(G i j).nil=ak->p.nil=ak->(G i j).blk≠p.blk
 one:∀i j i' j',gh xs i j->gh xs i' j'->(G i j).nil=ak->(G i' j').nil=ak->(G i j).blk=(G i' j').blk->i=i'/\j=j'
structure Mw (E:Tab) (w:bM) (c:e9) (nm e:aF) (ex:aW) (xs:aQ):Prop where
 sh:∃ti,E.ty e=ah ti/\(c.P nm).sz=ti.ks.length/\∀y∈xs,y.map CV.kd=ti.ks
 at_:jh w (c.P nm) xs (λi j u x=>if ex=ai then XC E w (c.G nm) i j u x else c_ E w c.K u x)
 inn:ex=ai->Fv (c.P nm) (c.G nm) xs
def FB(E:Tab)(w:bM)(K:aF->Prop)(b:aF)(cs:aA CV):Prop:=
 K b/\∀(q:aF) (x:CV),cs[q]? =ah x->∃u:bk,w.cell? (ad b q)=ah u/\c_ E w K u x
def wO(p:Pl)(lo hi:aF)(v:bk):Prop:=
 lo<=hi/\hi<=p.n/\(p.nil=ai->v= .slice aj 0 0)/\
 (p.nil=ak->(lo<p.cap/\v= .slice (ah (ad p.blk (p.off+lo*p.sz))) (hi-lo) (p.cap-lo))\/(lo=p.cap/\∃o,o<=p.off+p.cap*p.sz/\v= .slice (ah (ad p.blk o)) 0 0))
def eG(E:Tab)(w:bM)(c:e9):AV->bk->Prop
 | .i k n,v=>v= .int k n
 | .b x,v=>v= .bool x
 | .s x,v=>v= .string x/\DX x
 | .sh e xs,v=>c_ E w c.K v (.l e xs)
 | .nl,v=>v= .slice aj 0 0
 | .own nm,v=>v=lS (c.P nm)
 | .vw nm lo hi,v=>wO (c.P nm) lo hi v
 | .bp nm j,v=>v= .pointer (ah (ad (c.P nm).blk j))
 | .rp nm i j,v=>i<(c.P nm).n/\v= .pointer (ah (ad (c.P nm).blk ((c.P nm).off+i*(c.P nm).sz+j)))
 | .sp e xs i j,v=>∃b o cp ti,c_ E w c.K (.slice (ah (ad b o)) xs.length cp) (.l e xs)/\i<xs.length/\E.ty e=ah ti/\v= .pointer (ah (ad b (o+i*ti.ks.length+j)))
 | .inn nm i j,v=>(i<(c.P nm).n/\v=lS (c.G nm i j))/\zu nm=ak
 | .ip nm i j i2 j2,v=>(i<(c.P nm).n/\i2<(c.G nm i j).n/\v= .pointer (ah (ad (c.G nm i j).blk ((c.G nm i j).off+i2*(c.G nm i j).sz+j2))))/\zu nm=ak
 | .fn f iT,v=>∃ps:dt bk,v= .func (.func f) #[] ps/\ps.size=iT.length/\∀(q:aF) (cs:aA CV),iT[q]? =ah cs->∃b:aF,ps[q]? =ah (.pointer (ah (ad b 0)))/\FB E w c.K b cs
 | .fp cs j,v=>∃b,v= .pointer (ah (ad b j))/\FB E w c.K b cs
def qj(E:Tab)(w:bM)(c:e9)(agg:aW)(xs:aA AV)(v:bk):Prop:=
 match agg,xs with
 |false,[a]=>eG E w c a v
 |true,xs=>∃vals:dt bk,v= .agg vals/\vals.size=xs.length/\∀(j:aF) (a:AV),xs[j]? =ah a->∃u:bk,vals[j]? =ah u/\eG E w c a u
 |_,_=>False
def ji(E:Tab)(w:bM)(c:e9):SV->bk->Prop
 | .v agg xs,v=>qj E w c agg xs v
 | .j_ l,v=>∃vs:dt bk,v= .tuple vs/\vs.size=l.length/\∀(j:aF) (agg:aW) (xs:aA AV),l[j]? =ah (agg,xs)->∃u:bk,vs[j]? =ah u/\qj E w c agg xs u
 | .un,_=>True
def pP(E:Tab)(w:bM)(c:e9)(nm:aF):Obj->Prop
 | .box xs=>∃vals,nW w (c.P nm).blk vals/\vals.size=xs.length/\∀(j:aF) (a:AV),xs[j]? =ah a->∃u:bk,vals[j]? =ah u/\eG E w c a u
 | .n9 cs=>FB E w c.K (c.P nm).blk cs
 | .row e ex xs=>Mw E w c nm e ex xs
 | .fQ e xs=>c_ E w c.K (lS (c.P nm)) (.l e xs)/\(c.P nm).n=xs.length/\∃ti,E.ty e=ah ti/\(c.P nm).sz=ti.ks.length
 | .dead=>True
def fJ(c:e9)(nm:aF):Obj->aF->Prop
 | .box _,b=>b=(c.P nm).blk
 | .row _ ex xs,b=>((c.P nm).nil=ak/\b=(c.P nm).blk)\/(ex=ai/\∃i j,gh xs i j/\(c.G nm i j).nil=ak/\b=(c.G nm i j).blk)
 |_,_=>False
def wB(σ:St)(c:e9)(b:aF):Prop:=∃nm o,σ (c9 nm)= .o o/\fJ c nm o b
def jg(σ:St)(a:AV):Prop:=∀n∈bQ a,σ (c9 n)≠ .jZ
def mO(σ:St)(v:SV):Prop:=∀n∈cM v,σ (c9 n)≠ .jZ
structure Ok (E:Tab) (σ:St) (w:bM) (c:e9):Prop where
 obj:∀nm o,σ (c9 nm)= .o o->pP E w c nm o
 sep:∀nm o xH o' b,σ (c9 nm)= .o o->σ (c9 xH)= .o o'->fJ c nm o b->fJ c xH o' b->nm=xH
 kk:∀nm o b,σ (c9 nm)= .o o->fJ c nm o b->¬c.K b
 lt:∀b,c.K b->b<w.heap.size
 kn:∀nm xs,σ (c9 nm)= .o (.box xs)->∀a∈xs,jg σ a
structure fC (E:Tab) (σ:St) (a:Act) (w:bM) (c:e9):Prop where
 ok:∀n,ji E w c (slot σ n) (a.eval (.tmp n))
 kn:∀n,mO σ (slot σ n)
 df:a.defers=[]
def jC(σ:St)(c c':e9):Prop:=∀nm,(σ (c9 nm)≠ .jZ\/900000000<=nm)->c'.P nm=c.P nm/\c'.G nm=c.G nm
def qX(σ:St)(c c':e9):Prop:=∀nm,(σ (c9 nm)≠ .jZ\/900000000<=nm)->c'.P nm=c.P nm/\(zu nm=ak->c'.G nm=c.G nm)
theorem jC.w{σ:St}{c c':e9}(h:jC σ c c'):qX σ c c':=λnm hn=>⟨(h nm hn).1,λ_=>(h nm hn).2⟩
structure ov (σ:St) (c:e9) (w:bM) (σ':St) (c':e9) (w':bM):Prop where
 os:w'.os=w.os
 tape:w'.tape=w.tape
 output:w'.output=w.output
 size:w.heap.size<=w'.heap.size
 K:∀b,c.K b->c'.K b
 same:∀b,b<w.heap.size->¬wB σ c b->w'.heap[b]? =w.heap[b]?
 own:∀b,wB σ' c' b->wB σ c b\/w.heap.size<=b
 kn:∀b,c'.K b->c.K b\/wB σ c b\/w.heap.size<=b
theorem wB.lt{E:Tab}{σ:St}{w:bM}{c:e9}(h:Ok E σ w c){b:aF}(ho:wB σ c b):b<w.heap.size:=by
 obtain⟨nm,o,h1,h2⟩:=ho;have mV:=h.obj nm o h1;cases o with
 |box xs=>obtain⟨vals,hb,_⟩:=mV;cases h2;exact hb.lt
 |n9=>exact h2.elim
 |fQ=>exact h2.elim
 |dead=>exact h2.elim
 |row e ex xs=>
  rcases h2 with ⟨hn,rfl⟩|⟨hex,i,j,⟨y,x,hy,hx,hl⟩,hn,rfl⟩
  ·obtain⟨vals,hb,_⟩:=mV.at_.mem hn;exact hb.lt
  ·by_cases hp:(c.P nm).nil=ai
   ·have:=(mV.at_.nil hp).1;subst this;simp at hy
   ·obtain⟨vals,hb,_,_,_,hc⟩:=mV.at_.mem (by simpa using hp);obtain⟨u,_,hu⟩:=hc i y j x hy hx;rw[bz hex]at hu;cases x with
    |l e2 ys=>obtain⟨_,ti,_,_,_,_,hr⟩:=hu;obtain⟨v2,EJ,_⟩:=hr.mem hn;exact EJ.lt
    |i=>simp[ur]at hl
    |b=>simp[ur]at hl
    |s=>simp[ur]at hl
theorem Ok.Jo{E:Tab}{σ:St}{w:bM}{c:e9}(h:Ok E σ w c){b:aF}(ho:wB σ c b):¬c.K b:=by obtain⟨nm,o,h1,h2⟩:=ho;exact h.kk nm o b h1 h2
theorem ov.refl(σ:St)(c:e9)(w:bM):ov σ c w σ c w:=
 ⟨rfl,rfl,rfl,cD _,λ_ h=>h,λ_ _ _=>rfl,λ_ h=> .inl h,λ_ h=> .inl h⟩
theorem ov.trans{σ σ1 σ2:St}{c c1 c2:e9}{w w1 w2:bM}(h:ov σ c w σ1 c1 w1)(k:ov σ1 c1 w1 σ2 c2 w2):ov σ c w σ2 c2 w2 where
 os:=k.os.trans h.os
 tape:=k.tape.trans h.tape
 output:=k.output.trans h.output
 size:=dg h.size k.size
 K b hb:=k.K b (h.K b hb)
 same b hb hn:=(k.same b (ju hb h.size) (λho=>(h.own b ho).elim hn (λh=>by omega))).trans (h.same b hb hn)
 own b hb:=(k.own b hb).elim (h.own b) (λh1=> .inr (dg h.size h1))
 kn b hb:=by
  rcases k.kn b hb with h1|h1|h1
  ·exact h.kn b h1
  ·exact .inr (h.own b h1)
  ·exact .inr (.inr (dg h.size h1))
theorem ov.ZW{E:Tab}{σ σ':St}{c c':e9}{w w':bM}(cf:Ok E σ w c)(h:ov σ c w σ' c' w'):∀b,c.K b->w'.heap[b]? =w.heap[b]? :=
 λb hb=>h.same b (cf.lt b hb) (λho=>cf.Jo ho hb)
theorem FB.frame{E:Tab}{w w':bM}{K K':aF->Prop}{b:aF}{cs:aA CV}(h:FB E w K b cs)(hw:∀b,K b->w'.heap[b]? =w.heap[b]?)(hK:∀b,K b->K' b):FB E w' K' b cs:=
 ⟨hK b h.1,λq x hq=>by
  obtain⟨u,hu,hh⟩:=h.2 q x hq;exact⟨u,(uM (a:=ad b q) (hw b h.1)).trans hu,hh.frame hw hK⟩⟩
theorem eG.po{E:Tab}{w w':bM}{c c':e9}{a:AV}{v:bk}(h:eG E w c a v)(hw:∀b,c.K b->w'.heap[b]? =w.heap[b]?)(hK:∀b,c.K b->c'.K b)
  (hP:∀n∈bQ a,c'.P n=c.P n/\(zu n=ak->c'.G n=c.G n)):eG E w' c' a v:=by
 cases a with
 |i=>exact h
 |b=>exact h
 |s=>exact h
 |nl=>exact h
 |sh e xs=>exact c_.frame h hw hK
 |own n=>have:=hP n (by simp[bQ]);simp only[eG,this.1]at h⊢;exact h
 |vw n lo hi=>have:=hP n (by simp[bQ]);simp only[eG,this.1]at h⊢;exact h
 |bp n j=>have:=hP n (by simp[bQ]);simp only[eG,this.1]at h⊢;exact h
 |rp n i j=>have:=hP n (by simp[bQ]);simp only[eG,this.1]at h⊢;exact h
 |inn n i j=>have h0:=hP n (by simp[bQ]);have this:=h0.2 h.2;simp only[eG,h0.1,this]at h⊢;exact h
 |ip n i j i2 j2=>have h0:=hP n (by simp[bQ]);have this:=h0.2 h.2;simp only[eG,h0.1,this]at h⊢;exact h
 |sp e xs i j=>obtain⟨b,o,cp,ti,h1,h2,h3,h4⟩:=h;exact⟨b,o,cp,ti,h1.frame hw hK,h2,h3,h4⟩
 |fn f iT=>obtain⟨ps,h1,h2,h3⟩:=h;exact⟨ps,h1,h2,λq cs hq=>by obtain⟨b,hb,hf⟩:=h3 q cs hq;exact⟨b,hb,hf.frame hw hK⟩⟩
 |fp cs j=>obtain⟨b,h1,h2⟩:=h;exact⟨b,h1,h2.frame hw hK⟩
theorem qj.po{E:Tab}{w w':bM}{c c':e9}{agg:aW}{xs:aA AV}{v:bk}(h:qj E w c agg xs v)(hw:∀b,c.K b->w'.heap[b]? =w.heap[b]?)(hK:∀b,c.K b->c'.K b)
  (hP:∀n∈xs.flatMap bQ,c'.P n=c.P n/\(zu n=ak->c'.G n=c.G n)):qj E w' c' agg xs v:=by
 unfold qj at h⊢;split at h
 ·rename_i a;exact eG.po h hw hK (λn hn=>hP n (by simpa using hn))
 ·obtain⟨vals,h1,h2,h3⟩:=h;refine⟨vals,h1,h2,λj a hj=> ?_⟩
  obtain⟨u,hu,hv⟩:=h3 j a hj;exact⟨u,hu,hv.po hw hK (λn hn=>hP n (bP.2 ⟨a,aR hj,hn⟩))⟩
 ·exact h.elim
theorem ji.po{E:Tab}{w w':bM}{c c':e9}{s:SV}{v:bk}(h:ji E w c s v)(hw:∀b,c.K b->w'.heap[b]? =w.heap[b]?)(hK:∀b,c.K b->c'.K b)
  (hP:∀n∈cM s,c'.P n=c.P n/\(zu n=ak->c'.G n=c.G n)):ji E w' c' s v:=by
 cases s with
 |un=>trivial
 |v agg xs=>exact qj.po h hw hK hP
 |j_ l=>
  obtain⟨vs,h1,h2,h3⟩:=h;refine⟨vs,h1,h2,λj agg xs hj=> ?_⟩
  obtain⟨u,hu,hv⟩:=h3 j agg xs hj;exact⟨u,hu,hv.po hw hK (λn hn=>hP n (bP.2 ⟨(agg,xs),aR hj,hn⟩))⟩
theorem eG.frame{E:Tab}{w w':bM}{c c':e9}{a:AV}{v:bk}(h:eG E w c a v)(hw:∀b,c.K b->w'.heap[b]? =w.heap[b]?)(hK:∀b,c.K b->c'.K b)
  (hP:∀n∈bQ a,c'.P n=c.P n/\c'.G n=c.G n):eG E w' c' a v:=h.po hw hK (λn hn=>⟨(hP n hn).1,λ_=>(hP n hn).2⟩)
theorem qj.frame{E:Tab}{w w':bM}{c c':e9}{agg:aW}{xs:aA AV}{v:bk}(h:qj E w c agg xs v)(hw:∀b,c.K b->w'.heap[b]? =w.heap[b]?)(hK:∀b,c.K b->c'.K b)
  (hP:∀n∈xs.flatMap bQ,c'.P n=c.P n/\c'.G n=c.G n):qj E w' c' agg xs v:=h.po hw hK (λn hn=>⟨(hP n hn).1,λ_=>(hP n hn).2⟩)
theorem ji.frame{E:Tab}{w w':bM}{c c':e9}{s:SV}{v:bk}(h:ji E w c s v)(hw:∀b,c.K b->w'.heap[b]? =w.heap[b]?)(hK:∀b,c.K b->c'.K b)
  (hP:∀n∈cM s,c'.P n=c.P n/\c'.G n=c.G n):ji E w' c' s v:=h.po hw hK (λn hn=>⟨(hP n hn).1,λ_=>(hP n hn).2⟩)
theorem jh.frame{w w':bM}{p:Pl}{xs:aQ}{R R':aF->aF->bk->CV->Prop}(h:jh w p xs R)(hw:p.nil=ak->w'.heap[p.blk]? =w.heap[p.blk]?)
  (hR:∀i j y x u,xs[i]? =ah y->y[j]? =ah x->R i j u x->R' i j u x):jh w' p xs R' where
 n:=h.n
 nil:=h.nil
 mem hn:=by
  obtain⟨vals,h1,h2,h3,h4,h5⟩:=h.mem hn;refine⟨vals,h1.frame (hw hn),h2,h3,h4,λi y j x hi hj=> ?_⟩
  obtain⟨u,hu,hr⟩:=h5 i y j x hi hj;exact⟨u,hu,hR i j y x u hi hj hr⟩
theorem XC.frame{E:Tab}{w w':bM}{G:aF->aF->Pl}{i j:aF}{u:bk}{x:CV}(h:XC E w G i j u x)(hw:ur x=ai->(G i j).nil=ak->w'.heap[(G i j).blk]? =w.heap[(G i j).blk]?):XC E w' G i j u x:=by
 cases x with
 |l e ys=>obtain⟨h1,ti,h2,h3,h4,h5,h6⟩:=h;exact⟨h1,ti,h2,h3,h4,h5,h6.frame (hw rfl) (λ_ _ _ _ _ _ _ h=>h)⟩
 |i=>exact h
 |b=>exact h
 |s=>exact h
theorem pP.frame{E:Tab}{w w':bM}{c c':e9}{nm:aF}{o:Obj}(h:pP E w c nm o)(hw:∀b,c.K b->w'.heap[b]? =w.heap[b]?)(hK:∀b,c.K b->c'.K b)
  (hf:∀b,fJ c nm o b->w'.heap[b]? =w.heap[b]?) (hP:c'.P nm=c.P nm/\c'.G nm=c.G nm)
  (hPs:∀xs,o= .box xs->∀a∈xs,∀n∈bQ a,c'.P n=c.P n/\(zu n=ak->c'.G n=c.G n)):pP E w' c' nm o:=by
 cases o with
 |dead=>trivial
 |box xs=>
  obtain⟨vals,h1,h2,h3⟩:=h;refine⟨vals, ?_,h2,λj a hj=> ?_⟩
  ·rw[hP.1];exact h1.frame (hf _ rfl)
  ·obtain⟨u,hu,hv⟩:=h3 j a hj;exact⟨u,hu,hv.po hw hK (hPs xs rfl a (aR hj))⟩
 |n9 cs=>show FB E w' c'.K (c'.P nm).blk cs;rw[hP.1];exact FB.frame h hw hK
 |fQ e xs=>
  obtain⟨h1,h2,h3⟩:=h;refine⟨?_, ?_, ?_⟩
  ·rw[hP.1];exact h1.frame hw hK
  ·rw[hP.1];exact h2
  ·rw[hP.1];exact h3
 |row e ex xs=>
  obtain⟨h1,h2,h3⟩:=h;refine⟨by rw[hP.1];exact h1, ?_,by rw[hP.1,hP.2];exact h3⟩
  rw[hP.1,hP.2];refine h2.frame (λhn=>hf _ (.inl ⟨hn,rfl⟩)) (λi j y x u hi hj hr=> ?_);by_cases hx:ex=ai
  ·rw[bz hx]at hr⊢;exact hr.frame (λhl hn=>hf _ (.inr ⟨hx,i,j,⟨y,x,hi,hj,hl⟩,hn,rfl⟩))
  ·rw[bH hx]at hr⊢;exact hr.frame hw hK
end Go.FG

namespace Go.FG
theorem tX(s:St)(k:aF)(c:eQ):pM s k c k=c:=by simp[pM]
theorem zO(s:St){k n:aF}(c:eQ)(h:n≠k):pM s k c n=s n:=by
 have:bC n k=false:=by
  cases hb:bC n k with
  |false=>rfl
  |true=>exact cJ (aU hb) h
 simp[pM,this]
theorem rX(n m:aF):qq n≠c9 m:=by unfold qq c9;omega
theorem mq(n m:aF):c9 n≠qq m:=by unfold qq c9;omega
theorem Hp{n m:aF}(h:qq n=qq m):n=m:=by unfold qq at h;omega
theorem jU{n m:aF}(h:c9 n=c9 m):n=m:=by unfold c9 at h;omega
theorem JP(s:St)(d:aF)(c:eQ)(m:aF):pM s (qq d) c (c9 m)=s (c9 m):=zO s c (mq m d)
theorem pZ(s:St)(n:aF)(c:eQ)(m:aF):pM s (c9 n) c (c9 m)=if m=n then c else s (c9 m):=by
 by_cases h:m=n
 ·subst h;simp[tX]
 ·rw[bH h];exact zO s c (λe=>h (jU e))
theorem jo(s:St)(n:aF)(c:eQ)(m:aF):slot (pM s (c9 n) c) m=slot s m:=by unfold slot;rw[zO s c (rX m n)]
theorem xW(s:St)(d:aF)(v:SV)(m:aF):slot (pM s (qq d) (.v v)) m=if m=d then v else slot s m:=by
 by_cases h:m=d
 ·subst h;simp[slot,tX]
 ·rw[bH h];unfold slot;rw[zO s _ (λe=>h (Hp e))]
theorem PZ(s:St)(l r:aA (aF×eQ)):wr s (l++r)=wr (wr s l) r:=by
 induction l generalizing s with
 |nil=>rfl
 |cons a l ih=>obtain⟨k,c⟩:=a;exact ih _
def Rd.val{α:Type}(m:Rd α)(σ:St):az α:=(m.run σ []).map (·.1)
theorem lx{α:Type}(m:Rd α)(σ:St):∀l,(m.run σ l).map (·.1)=m.val σ:=by
 induction m with
 |ret a=>intro l;rfl
 |fail=>intro l;rfl
 |get k f ih=>intro l;simp only[Rd.run,Rd.val];rw[ih,ih]
theorem Rd.LS{α:Type}{m:Rd α}{σ:St}{l l':aA aF}{a:α}(h:m.run σ l=ah (a,l')):m.val σ=ah a:=by rw[<-lx m σ l,h];rfl
@[simp] theorem Rd.amR {α:Type} (a:α) (σ:St):(Rd.ret a).val σ=some a:=rfl
@[simp] theorem Rd.alJ {α:Type} (σ:St):(Rd.fail:Rd α).val σ=none:=rfl
@[simp] theorem Rd.Br {α:Type} (k:Nat) (f:eQ->Rd α) (σ:St):(Rd.get k f).val σ=(f (σ k)).val σ:=by
 simp only[Rd.val,Rd.run];exact(lx (f (σ k)) σ [k])
@[simp] theorem Rd.Vz {α β:Type} (m:Rd α) (f:α->Rd β) (σ:St):(m.bind f).val σ=(m.val σ).bind λa=>(f a).val σ:=by
 induction m with
 |ret a=>rfl
 |fail=>rfl
 |get k g ih=>simp only[Rd.bind,Rd.Br];exact ih _
theorem Rd.bind_some{α β:Type}{m:Rd α}{f:α->Rd β}{σ:St}{b:β}(h:(m.bind f).val σ=ah b):∃a,m.val σ=ah a/\(f a).val σ=ah b:=by rw[Rd.Vz,Option.bind_eq_some_iff]at h;exact h
theorem cR{α:Type}{b:aW}{m:Rd α}{σ:St}{a:α}(h:(bif b then m else Rd.fail).val σ=ah a):b=ai/\m.val σ=ah a:=by
 cases b with
 |true=>exact⟨rfl,h⟩
 |false=>simp at h
def j5(Ch:aF->Prop)(σ:St)(c:e9)(b:aF):Prop:=∃nm o,Ch nm/\σ (c9 nm)= .o o/\fJ c nm o b
theorem j5.own{Ch:aF->Prop}{σ:St}{c:e9}{b:aF}(h:j5 Ch σ c b):wB σ c b:=by obtain⟨nm,o,_,h1,h2⟩:=h;exact⟨nm,o,h1,h2⟩
theorem mn{c c':e9}{nm:aF}{o:Obj}(h:c'.P nm=c.P nm/\c'.G nm=c.G nm)(b:aF):fJ c' nm o b=fJ c nm o b:=by cases o<;>simp only[fJ,h.1,h.2]
theorem Ok.wR{E:Tab}{σ σ':St}{w w':bM}{c c':e9}(h:Ok E σ w c)(Ch:aF->Prop)
  (hσ:∀nm,¬Ch nm->σ' (c9 nm)=σ (c9 nm)) (iw:∀nm,σ (c9 nm)≠ .jZ->σ' (c9 nm)≠ .jZ) (hA:qX σ c c') (hAG:∀nm,¬Ch nm->σ (c9 nm)≠ .jZ->c'.G nm=c.G nm)
  (hW:∀b,b<w.heap.size->¬j5 Ch σ c b->w'.heap[b]? =w.heap[b]?) (gf:w.heap.size<=w'.heap.size)
  (hK:∀b,c.K b->c'.K b) (V8:∀b,c'.K b->c.K b\/j5 Ch σ c b\/w.heap.size<=b) (GQ:∀b,c'.K b->b<w'.heap.size)
  (mV:∀nm o,Ch nm->σ' (c9 nm)= .o o->pP E w' c' nm o)
  (pT:∀nm o b,Ch nm->σ' (c9 nm)= .o o->fJ c' nm o b->(j5 Ch σ c b\/w.heap.size<=b)/\¬c'.K b)
  (SK:∀nm o xH o' b,Ch nm->Ch xH->σ' (c9 nm)= .o o->σ' (c9 xH)= .o o'->fJ c' nm o b->fJ c' xH o' b->nm=xH)
  (IY:∀nm xs,Ch nm->σ' (c9 nm)= .o (.box xs)->∀a∈xs,jg σ' a)
  (O6:w'.os=w.os) (SL:w'.tape=w.tape) (aeN:w'.output=w.output):Ok E σ' w' c'/\ov σ c w σ' c' w':=by
 have Nu:∀nm o b,¬Ch nm->σ (c9 nm)= .o o->fJ c nm o b->¬j5 Ch σ c b:=by intro nm o b hc ho hf ⟨iC,o2,hc2,ho2,hf2⟩;exact hc (h.sep nm o iC o2 b ho ho2 hf hf2▸hc2)
 have agr:∀nm o,¬Ch nm->σ' (c9 nm)= .o o->σ (c9 nm)= .o o/\(c'.P nm=c.P nm/\c'.G nm=c.G nm):=by intro nm o hc ho;rw[hσ nm hc]at ho;exact⟨ho,(hA nm (.inl (by rw[ho];simp))).1,hAG nm hc (by rw[ho];simp)⟩
 have ajc:∀b,c.K b->w'.heap[b]? =w.heap[b]? :=λb hb=>hW b (h.lt b hb) (λhi=>h.Jo hi.own hb);have lt:∀nm o b,σ (c9 nm)= .o o->fJ c nm o b->b<w.heap.size:=λnm o b ho hf=>wB.lt h ⟨nm,o,ho,hf⟩;refine⟨⟨?_, ?_, ?_,GQ, ?_⟩,⟨O6,SL,aeN,gf,hK, ?_, ?_, ?_⟩⟩
 ·intro nm o ho;by_cases hc:Ch nm
  ·exact mV nm o hc ho
  ·obtain⟨vi,ha⟩:=agr nm o hc ho;refine(h.obj nm o vi).frame ajc hK (λb hb=>hW b (lt nm o b vi hb) (Nu nm o b hc vi hb)) ha ?_;intro xs hx a hm n hn;exact hA n (.inl (h.kn nm xs (hx▸vi) a hm n hn))
 ·intro nm o xH o' b ho vi hf ve;by_cases hc:Ch nm
  ·by_cases IP:Ch xH
   ·exact SK nm o xH o' b hc IP ho vi hf ve
   ·obtain⟨h1,ha⟩:=agr xH o' IP vi;rw[mn ha]at ve;rcases(pT nm o b hc ho hf).1 with hi|hi
    ·exact cJ hi (Nu xH o' b IP h1 ve)
    ·have:=lt xH o' b h1 ve;omega
  ·obtain⟨h1,ha⟩:=agr nm o hc ho;rw[mn ha]at hf;by_cases IP:Ch xH
   ·rcases(pT xH o' b IP vi ve).1 with hi|hi
    ·exact cJ hi (Nu nm o b hc h1 hf)
    ·have:=lt nm o b h1 hf;omega
   ·obtain⟨h2,ha'⟩:=agr xH o' IP vi;rw[mn ha']at ve;exact h.sep nm o xH o' b h1 h2 hf ve
 ·intro nm o b ho hf;by_cases hc:Ch nm
  ·exact(pT nm o b hc ho hf).2
  ·obtain⟨h1,ha⟩:=agr nm o hc ho;rw[mn ha]at hf;intro hk;rcases V8 b hk with h2|h2|h2
   ·exact h.kk nm o b h1 hf h2
   ·exact Nu nm o b hc h1 hf h2
   ·have:=lt nm o b h1 hf;omega
 ·intro nm xs ho a hm;by_cases hc:Ch nm
  ·exact IY nm xs hc ho a hm
  ·obtain⟨h1,_⟩:=agr nm _ hc ho;intro n hn;exact iw n (h.kn nm xs h1 a hm n hn)
 ·intro b hb hn;exact hW b hb (λhi=>hn hi.own)
 ·rintro b ⟨nm,o,ho,hf⟩;by_cases hc:Ch nm
  ·exact(pT nm o b hc ho hf).1.imp j5.own id
  ·obtain⟨h1,ha⟩:=agr nm o hc ho;rw[mn ha]at hf;exact .inl ⟨nm,o,h1,hf⟩
 ·intro b hb;rcases V8 b hb with h2|h2|h2
  ·exact .inl h2
  ·exact .inr (.inl h2.own)
  ·exact .inr (.inr h2)
theorem Ok.change{E:Tab}{σ σ':St}{w w':bM}{c c':e9}(h:Ok E σ w c)(Ch:aF->Prop)
  (hσ:∀nm,¬Ch nm->σ' (c9 nm)=σ (c9 nm)) (iw:∀nm,σ (c9 nm)≠ .jZ->σ' (c9 nm)≠ .jZ) (hA:jC σ c c')
  (hW:∀b,b<w.heap.size->¬j5 Ch σ c b->w'.heap[b]? =w.heap[b]?) (gf:w.heap.size<=w'.heap.size)
  (hK:∀b,c.K b->c'.K b) (V8:∀b,c'.K b->c.K b\/j5 Ch σ c b\/w.heap.size<=b) (GQ:∀b,c'.K b->b<w'.heap.size)
  (mV:∀nm o,Ch nm->σ' (c9 nm)= .o o->pP E w' c' nm o)
  (pT:∀nm o b,Ch nm->σ' (c9 nm)= .o o->fJ c' nm o b->(j5 Ch σ c b\/w.heap.size<=b)/\¬c'.K b)
  (SK:∀nm o xH o' b,Ch nm->Ch xH->σ' (c9 nm)= .o o->σ' (c9 xH)= .o o'->fJ c' nm o b->fJ c' xH o' b->nm=xH)
  (IY:∀nm xs,Ch nm->σ' (c9 nm)= .o (.box xs)->∀a∈xs,jg σ' a)
  (O6:w'.os=w.os) (SL:w'.tape=w.tape) (aeN:w'.output=w.output):Ok E σ' w' c'/\ov σ c w σ' c' w':=
 h.wR Ch hσ iw hA.w (λnm _ hn=>(hA nm (.inl hn)).2) hW gf hK V8 GQ mV pT SK IY O6 SL aeN
theorem Ok.slot{E:Tab}{σ σ':St}{w:bM}{c:e9}(h:Ok E σ w c)(hσ:∀nm,σ' (c9 nm)=σ (c9 nm)):Ok E σ' w c/\ov σ c w σ' c w:=by
 refine⟨⟨λnm o ho=>h.obj nm o (hσ nm▸ho),λnm o xH o' b h1 h2=>h.sep nm o xH o' b (hσ nm▸h1) (hσ xH▸h2),λnm o b h1=>h.kk nm o b (hσ nm▸h1),h.lt,λnm xs ho a hm n hn=>by rw[hσ];exact h.kn nm xs (hσ nm▸ho) a hm n hn⟩,
  ⟨rfl,rfl,rfl,cD _,λ_ h=>h,λ_ _ _=>rfl,λb ⟨nm,o,ho,hf⟩=> .inl ⟨nm,o,hσ nm▸ho,hf⟩,λ_ h=> .inl h⟩⟩
theorem DM(a:Act)(d:aF)(v:bk)(h:d<a.tmps.size):(a.put (ah d) v).eval (.tmp d)=v:=by simp[VQ,HX,h]
theorem IA(a:Act)(d n:aF)(v:bk)(h:n≠d):(a.put (ah d) v).eval (.tmp n)=a.eval (.tmp n):=by simp only[VQ,HX,eJ,oh];rw[bH (λe=>h e.symm)]
theorem fC.wR{E:Tab}{σ σ':St}{a:Act}{w w':bM}{c c':e9}(h:fC E σ a w c)(cf:Ok E σ w c)(hG:ov σ c w σ' c' w')(hA:qX σ c c')(iw:∀nm,σ (c9 nm)≠ .jZ->σ' (c9 nm)≠ .jZ)
  (o:fA) (v:bk) (hs:∀n,o.dst≠ah n->slot σ' n=slot σ n) (hd:∀d,o.dst=ah d->d<a.tmps.size/\ji E w' c' (slot σ' d) v/\mO σ' (slot σ' d)):fC E σ' (a.put o.dst v) w' c':=by
 have keep:∀n,ji E w' c' (slot σ n) (a.eval (.tmp n)):=λn=>(h.ok n).po (hG.ZW cf) hG.K (λm hm=>hA m (.inl (h.kn n m hm)));have abr:∀n,mO σ' (slot σ n):=λn m hm=>iw m (h.kn n m hm);cases ho:o.dst with
 |none=>
  refine⟨λn=> ?_,λn=> ?_,h.df⟩
  ·rw[hs n (by simp[ho])];exact keep n
  ·rw[hs n (by simp[ho])];exact abr n
 |some d=>
  obtain⟨h1,h2,h3⟩:=hd d ho;refine⟨λn=> ?_,λn=> ?_,h.df⟩
  ·by_cases hn:n=d
   ·subst hn;rw[DM a n v h1];exact h2
   ·rw[IA a d n v hn,hs n (by rw[ho];simpa using λe=>hn e.symm)];exact keep n
  ·by_cases hn:n=d
   ·subst hn;exact h3
   ·rw[hs n (by rw[ho];simpa using λe=>hn e.symm)];exact abr n
theorem fC.change{E:Tab}{σ σ':St}{a:Act}{w w':bM}{c c':e9}(h:fC E σ a w c)(cf:Ok E σ w c)(hG:ov σ c w σ' c' w')(hA:jC σ c c')(iw:∀nm,σ (c9 nm)≠ .jZ->σ' (c9 nm)≠ .jZ)
  (o:fA) (v:bk) (hs:∀n,o.dst≠ah n->slot σ' n=slot σ n) (hd:∀d,o.dst=ah d->d<a.tmps.size/\ji E w' c' (slot σ' d) v/\mO σ' (slot σ' d)):fC E σ' (a.put o.dst v) w' c':=
 h.wR cf hG hA.w iw o v hs hd
theorem rY(σ:St)(o:fA)(v:SV):(∀n,o.dst≠ah n->slot (wr σ (dw o v)) n=slot σ n)/\(∀d,o.dst=ah d->slot (wr σ (dw o v)) d=v)/\∀nm,wr σ (dw o v) (c9 nm)=σ (c9 nm):=by
 cases ho:o.dst with
 |none=>simp[dw,ho,wr]
 |some d=>
  refine⟨λn hn=> ?_,λd' hd=> ?_,λnm=> ?_⟩
  ·simp only[dw,ho,wr];rw[xW,bH (by rintro rfl;exact hn rfl)]
  ·cases hd;simp only[dw,ho,wr];rw[xW,bz rfl]
  ·simp only[dw,ho,wr];exact JP _ _ _ _
end Go.FG

namespace Go.FG
def iJ:Ck->bk
 | .i k=> .int k 0| .b=> .bool ak| .s=> .string ⟨#[]⟩| .l _=> .slice aj 0 0| .o=> .nilIface
def lX:AV->bk
 | .i k n=> .int k n| .b x=> .bool x| .s x=> .string x|_=> .nilIface
structure eB (P:c5) (E:Tab):Prop where
 info:∀t ti,E.ty t=ah ti->∃inf,P.info? t=ah inf/\inf.size=ti.ks.length/\inf.bytes=ti.bytes/\0<ti.ks.length/\
  (Lf ti.ks=ai->∃z,inf.zero=ah z/\z.cells=(ti.ks.map iJ).toArray/\(ti.agg=ai->z= .agg (ti.ks.map iJ).toArray))
 desc:∀t ti,E.ty t=ah ti->∃d,P.underlying t=ah d/\
  (ti.agg=ai->∃fs,d= .struct fs/\∀f o n,E.fo t f=ah (o,n)->∃fd,fs[f]? =ah fd/\fd.offset=o/\(P.info? fd.type).map (·.size)=ah n/\n≠0/\o+n<=ti.ks.length)/\
  (ti.agg=ak->(∃k,ti.ks=[.i k]/\d= .int k)\/(ti.ks=[.b]/\d= .bool)\/(ti.ks=[.s]/\d= .string)\/(∃e,ti.ks=[.l e]/\d= .slice e)\/
   (ti.ks=[.o]/\(match d with| .struct _| .array _ _=>ak|_=>ai)=ai))
 fo:∀t f o n,E.fo t f=ah (o,n)->∃ti,E.ty t=ah ti/\ti.agg=ai
 pl:∀t ti,E.ty t=ah ti->ti.agg=ai->∀fs,P.underlying t=ah (.struct fs)->∃pl,fs.toList.mapM (λf=>(P.info? f.type).map λi=>(f.offset,i.size))=ah pl/\∀f o n,E.fo t f=ah (o,n)->pl[f]? =ah (o,n)
 eq:∀t ti,mJ t E.eqs=ai->E.ty t=ah ti->∀(w:bM) (x y:dz) (xs ys:aA AV) (r:aW),Xb xs ys=ah r->xs.map GZ=ti.ks->ys.map GZ=ti.ks->
  (do eqGuard .eql t x y (.agg (xs.map lX).toArray) (.agg (ys.map lX).toArray);binOp .eql t (.agg (xs.map lX).toArray) (.agg (ys.map lX).toArray)).run P w= .ok (.bool r) w/\
  (do eqGuard .neq t x y (.agg (xs.map lX).toArray) (.agg (ys.map lX).toArray);binOp .neq t (.agg (xs.map lX).toArray) (.agg (ys.map lX).toArray)).run P w= .ok (.bool !r) w
 fl:∀t f,E.Sr t f=ai->∀fs fd,P.underlying t=ah (.struct fs)->fs[f]? =ah fd->∀w,(Go.isAgg fd.type).run P w= .ok ak w
theorem Ew{v:bk}(h:v.oneCell'=ai):v.cells= #[v]:=by cases v<;>simp_all [Value.cells,Value.oneCell']
theorem eG.one{E:Tab}{w:bM}{c:e9}{a:AV}{v:bk}(h:eG E w c a v):v.oneCell'=true:=by
 cases a with
 |i=>cases h;rfl
 |b=>cases h;rfl
 |s=>cases h.1;rfl
 |nl=>cases h;rfl
 |sh e xs=>cases h<;>rfl
 |own n=>cases h;unfold lS;split<;>rfl
 |vw n lo hi=>
  obtain⟨_,_,h1,h2⟩:=h;by_cases hn:(c.P n).nil=ai
  ·rw[h1 hn];rfl
  ·rcases h2 (by simpa using hn)with ⟨_,h⟩|⟨_,o,_,h⟩<;>rw[h]<;>rfl
 |bp n j=>cases h;rfl
 |rp n i j=>rw[h.2];rfl
 |sp e xs i j=>obtain⟨_,_,_,_,_,_,_,h⟩:=h;rw[h];rfl
 |inn n i j=>rw[h.1.2];unfold lS;split<;>rfl
 |ip n i j i2 j2=>rw[h.1.2.2];rfl
 |fn f iT=>obtain⟨ps,h,_⟩:=h;rw[h];rfl
 |fp cs j=>obtain⟨b,h,_⟩:=h;rw[h];rfl
section
variable {P:c5} (w:bM)
theorem Addr.n7(b o i:aF):(ad b o).add i=ad b (o+i):=by unfold Addr.add ad;split<;>simp_all
theorem D1(b o:aF):∀(vs:aA bk) (i:aF) (w:bM) (cur:dt bk),nW w b cur->o+i+vs.length<=cur.size->(∀v∈vs,v.oneCell'=ai)->
  (storeCells (ad b o) vs i).run P w= .ok () (w.setRow b (cur.toList.take (o+i)++vs++cur.toList.drop (o+i+vs.length)).toArray):=by
 intro vs;induction vs with
 |nil=>intro i w cur hb _ _;obtain⟨t,fr,hg,hf⟩:=hb;simp only[storeCells,dm,jO,yL,List.take_append_drop,t_];rw[setRow_self w b cur t fr hg];rfl
 |cons v rest ih=>
  intro i w cur hb hl h1;have hi:o+i<cur.size:=by simp at hl;omega
  have arl:=hb.free hi;obtain⟨t,fr,hg,hf⟩:=hb;have hcell:w.cell? (ad b (o+i))=ah cur[o+i]:=by simp[World.cell?,hg,hi]
  have KX:(store ((ad b o).add i) v).run P w= .ok () (w.setRow b (cur.setIfInBounds (o+i) v)):=by rw[Addr.n7,run_store P w _ v _ (h1 v (by simp)),hcell];simp[arl,setCell_eq_setRow w b (o+i) cur t fr v hg]
  have Qi:nW (w.setRow b (cur.setIfInBounds (o+i) v)) b (cur.setIfInBounds (o+i) v):=⟨t,fr,setRow_heap w b cur _ t fr hg,by simpa using hf⟩
  have ih':=ih (i+1) (w.setRow b (cur.setIfInBounds (o+i) v)) (cur.setIfInBounds (o+i) v) Qi (by simp at hl⊢;omega) (λx hx=>h1 x (by simp[hx]));simp only[storeCells,ch,KX,bG,ih',setRow_setRow];congr 3;have e:=list_seg_step cur.toList (o+i) v rest (by simp at hl⊢;omega);simpa [Array.toList_setIfInBounds,lZ]using e
def ed(cur:dt bk)(o:aF)(vs:aA bk):dt bk:=(cur.toList.take o++vs++cur.toList.drop (o+vs.length)).toArray
theorem fa{cur:dt bk}{o:aF}{vs:aA bk}(h:o+vs.length<=cur.size):(ed cur o vs).size=cur.size:=by simp[ed];omega
theorem gm{cur:dt bk}{o:aF}{vs:aA bk}(h:o+vs.length<=cur.size)(k:aF):
  (ed cur o vs)[k]? =if o<=k/\k<o+vs.length then vs[k-o]? else cur[k]? :=by
 simp only[ed,h_];by_cases h1:k<o
 ·rw[bH (by omega),cu,dH (by simp;omega),d_,bz h1];simp
 ·by_cases h2:k<o+vs.length
  ·rw[bz ⟨by omega,h2⟩,cu,da (by simp;omega),dH (by simp;omega)];congr 1;simp;omega
  ·rw[bH (by omega),cu,da (by simp;omega),da (by simp;omega),dQ];simp only[cX];congr 1;simp;omega
theorem nJ{b o:aF}{vs:aA bk}{cur:dt bk}(hb:nW w b cur)(hl:o+vs.length<=cur.size)(h1:∀v∈vs,v.oneCell'=ai):
  (storeCells (ad b o) vs).run P w= .ok () (w.setRow b (ed cur o vs)):=by have:=D1 (P:=P) b o vs 0 w cur hb (by simpa using hl) h1;simpa [ed]using this
theorem nW.setRow{w:bM}{b:aF}{cur new:dt bk}(h:nW w b cur)(hs:new.size=cur.size):nW (w.setRow b new) b new:=by obtain⟨t,fr,hg,hf⟩:=h;exact⟨t,fr,setRow_heap w b cur new t fr hg,by rw[hs];exact hf⟩
theorem nW.alloc(w:bM)(cs:dt bk)(t:TypeId):nW (w.alloc (.cells cs t)) w.heap.size cs:=
 ⟨t,(0,0),heap_alloc_new w _,λo _=>by simp⟩
theorem xR{b o:aF}{cs:aA bk}(h:∀j v,cs[j]? =ah v->w.cell? (ad b (o+j))=ah v):(loadCells (ad b o) cs.length).run P w= .ok cs.toArray w:=
 run_loadCells_list w (ad b o) cs (λj v hj=>by rw[Addr.n7];exact h j v hj)
theorem CS{E:Tab}(hE:eB P E){t:aF}{ti:TI}(ht:E.ty t=ah ti){b o:aF}{cs:aA bk}(hl:cs.length=ti.ks.length)(h:∀j v,cs[j]? =ah v->w.cell? (ad b (o+j))=ah v):
  (yI t (.pointer (ah (ad b o)))).run P w= .ok (if ti.agg=ai then .agg cs.toArray else cs.headD .nilIface) w:=by
 obtain⟨inf,hi,gf,_,lj,_⟩:=hE.info t ti ht;obtain⟨d,hd,ha,hn⟩:=hE.desc t ti ht;cases uq:ti.agg with
 |true=>obtain⟨fs,rfl,_⟩:=ha uq;have hr:=xR (P:=P) w (b:=b) (o:=o) h;simp only[yI,uL,loadVar,isAgg,ch,run_underlying hd,cT,bG,if_true,sizeOf,typeInfo,program,nr,hi,gf,<-hl,hr]
 |false=>
  have xB:∃k,ti.ks=[k]:=by rcases hn uq with ⟨k,h,_⟩|⟨h,_⟩|⟨h,_⟩|⟨e,h,_⟩|⟨h,_⟩<;>exact⟨_,h⟩
  obtain⟨k,hk⟩:=xB;rw[hk]at hl;obtain⟨v,rfl⟩:=gU.1 hl;have hc:=h 0 v rfl;simp only[yL]at hc;have ayO:(match d with| .struct _| .array _ _=>ai|_=>ak)=false:=by
   rcases hn uq with ⟨k,_,rfl⟩|⟨_,rfl⟩|⟨_,rfl⟩|⟨e,_,rfl⟩|⟨_,h⟩
   ·rfl
   ·rfl
   ·rfl
   ·rfl
   ·cases d<;>simp_all
  have aq1:(isAgg t).run P w= .ok ak w:=by simp only[isAgg,ch,run_underlying hd,bG];cases d<;>simp_all
  simp only[yI,uL,loadVar,ch,cT,bG,aq1,dv,if_false,run_load,hc,List.headD]
theorem JF{E:Tab}(hE:eB P E){t:aF}{ti:TI}(ht:E.ty t=ah ti){b o:aF}{v:bk}{cur:dt bk}(hl:v.cells.size=ti.ks.length)(hb:nW w b cur)(hf:o+v.cells.size<=cur.size)(h1:∀u∈v.cells.toList,u.oneCell'=ai):
  (WG t (.pointer (ah (ad b o))) v).run P w= .ok () (w.setRow b (ed cur o v.cells.toList)):=by obtain⟨inf,hi,gf,_⟩:=hE.info t ti ht;have hr:=nJ (P:=P) w hb (o:=o) (vs:=v.cells.toList) (by simpa using hf) h1;simp only[WG,uL,storeVar,ch,cT,bG,sizeOf,typeInfo,program,nr,hi,gf,hl,ne_eq,not_true_eq_false,if_false,hr]
theorem PJ{E:Tab}(hE:eB P E){t:aF}{ti:TI}(ht:E.ty t=ah ti)(ho:Lf ti.ks=ai):
  (Instr.alloc t ai (.tuple #[])).run P w= .ok (.pointer (ah (ad w.heap.size 0))) (w.alloc (.cells (ti.ks.map iJ).toArray t)):=by obtain⟨inf,hi,gf,_,_,hz⟩:=hE.info t ti ht;obtain⟨z,JY,DV,_⟩:=hz ho;simp only[Instr.alloc,ch,zeroValue,typeInfo,program,nr,hi,bG,cT,JY,newVar,newRow,newObj,DV];rfl
theorem UG(t:aF)(v:bk):(Instr.box t v).run P w= .ok (.pointer (ah (ad w.heap.size 0))) (w.alloc (.cells v.cells t)):=by simp only[Instr.box,ch,newVar,newRow,newObj,nr,bG,cT];rfl
theorem JA{E:Tab}(hE:eB P E){t f off n:aF}(hf:E.fo t f=ah (off,n))(b o:aF):
  (WD t (.pointer (ah (ad b o))) f).run P w= .ok (.pointer (ah (ad b (o+off)))) w:=by
 obtain⟨ti,ht,uq⟩:=hE.fo t f off n hf;obtain⟨d,hd,ha,_⟩:=hE.desc t ti ht;obtain⟨fs,rfl,KT⟩:=ha uq;obtain⟨fd,h1,h2,h3,h4,_⟩:=KT f off n hf;cases hq:P.info? fd.type with
 |none=>simp[hq]at h3
 |some inf=>
  have hs:inf.size=n:=by simpa [hq]using h3
  have iw:¬inf.size=0:=by omega
  simp only[WD,ch,run_underlying hd,bG,h1,uL,cT,fieldPlace,sizeOf,typeInfo,program,nr,hq,bH iw,na,Addr.n7,h2]
theorem pe{E:Tab}(hE:eB P E){t e:aF}{ti:TI}(ht:E.ty t=ah ti)(uq:ti.agg=ak)(hk:ti.ks=[.l e]):P.underlying t=ah (.slice e):=by obtain⟨d,hd,_,hn⟩:=hE.desc t ti ht;rcases hn uq with ⟨k,h,_⟩|⟨h,_⟩|⟨h,_⟩|⟨e',h,rfl⟩|⟨h,_⟩<;>rw[hk]at h<;>simp_all
theorem JB{E:Tab}(hE:eB P E){t e:aF}{te:TI}(hu:P.underlying t=ah (.slice e))(he:E.ty e=ah te)(b o n c:aF)(k:nq)(i:aw)(h0:0<=i)(h1:i<n):
  (WE t (.slice (ah (ad b o)) n c) (.int k i)).run P w= .ok (.pointer (ah (ad b (o+i.toNat*te.ks.length)))) w:=by obtain⟨inf,hi,gf,_⟩:=hE.info e te he;simp only[WE,asIntOf,ch,cT,bG,run_underlying hu,h0,h1,and_self,if_true,sizeOf,typeInfo,program,nr,hi,gf,Addr.n7]
end
end Go.FG

namespace Go.FG
section
variable {P:c5} {E:fO} {σ:St} {a:Act} {w:bM} {c:e9}
theorem mr(dK:fC E σ a w c){x:dz}{v:SV}(h:(Hc x).val σ=ah v):ji E w c v (a.eval x)/\mO σ v:=by
 cases x with
 |tmp t=>
  simp only[Hc,Rd.Br]at h;cases hc:σ (qq t)with
  |v x=>rw[hc]at h;obtain rfl:=aJ h;have h1:=dK.ok t;have h2:=dK.kn t;simp only[slot,hc]at h1 h2;exact⟨h1,h2⟩
  |o x=>rw[hc]at h;simp at h;subst h;exact⟨trivial,λn hn=>by simp[cM]at hn⟩
  |jZ=>rw[hc]at h;simp at h;subst h;exact⟨trivial,λn hn=>by simp[cM]at hn⟩
 |const v'=>
  obtain rfl:=aJ h;refine⟨?_, ?_⟩
  ·show ji E w c (cst v') v';unfold cst;split;case h_3 x=>
    cases hd:fI x.size 4611686018427387904 with
    |true=>exact⟨rfl,cL hd⟩
    |false=>exact trivial
   all_goals first|trivial|rfl
  ·unfold cst;intro n hn;split at hn;case h_3 x=>
    cases hd:fI x.size 4611686018427387904 with
    |true=>simp[hd,cM,bQ]at hn
    |false=>simp[hd,cM]at hn
   all_goals simp[cM,bQ]at hn
 |global g=>simp[Hc]at h
 |func f=>obtain rfl:=aJ h;exact⟨⟨#[],rfl,rfl,λq cs hq=>by simp at hq⟩,λn hn=>by simp[cM,bQ]at hn⟩
theorem iY(dK:fC E σ a w c){x:dz}{v:AV}(h:(rS x).val σ=ah v):eG E w c v (a.eval x)/\jg σ v:=by
 obtain⟨s,h1,h2⟩:=Rd.bind_some h;obtain⟨h3,h4⟩:=mr dK h1;split at h2
 ·obtain rfl:=aJ h2;exact⟨h3,λn hn=>h4 n (by simpa [cM]using hn)⟩
 ·simp at h2
theorem pW(dK:fC E σ a w c){x:dz}{k:nq}{n:aw}(h:(CA x).val σ=ah (k,n)):a.eval x= .int k n:=by
 obtain⟨s,h1,h2⟩:=Rd.bind_some h;obtain⟨h3,_⟩:=iY dK h1;split at h2
 ·simp at h2;obtain⟨rfl,rfl⟩:=h2;exact h3
 ·simp at h2
theorem dA{nm:aF}{x:Obj}(h:(jL nm).val σ=ah x):σ (c9 nm)= .o x:=by
 simp only[jL,Rd.Br]at h;split at h
 ·rename_i y hy;simp at h;subst h;exact hy
 ·simp at h
theorem dW{t:aF}{ti:TI}(h:(sM E t).val σ=ah ti):E.ty t=ah ti:=by
 unfold sM at h;split at h
 ·simp at h;subst h;assumption
 ·simp at h
theorem kI{nm:aF}{u:Unit}(h:(fresh nm).val σ=ah u):σ (c9 nm)= .jZ/\nm<900000000:=by
 simp only[fresh,Rd.Br]at h;split at h
 ·rename_i hy;obtain⟨h1,_⟩:=cR h;exact⟨hy,by have:=cL h1;omega⟩
 ·simp at h
def gT(P:c5)(E:fO)(σ:St)(a:Act)(w:bM)(c:e9)(o:fA)(ws:aA (aF×eQ)):Prop:=
 ∀(K:Act->bM->Prop) (Q:Exit->Act->bM->Prop),
  (∀v w' c',Ok E (wr σ ws) w' c'->fC E (wr σ ws) (a.put o.dst v) w' c'->ov σ c w (wr σ ws) c' w'->qX σ c c'->K (a.put o.dst v) w')->o.wp P a w K Q
theorem yp{o:fA}{v:bk}{w':bM}{K:Act->bM->Prop}{Q:Exit->Act->bM->Prop}(hr:(execOp a.eval o).run P w= .ok (.value v) w')(hK:K (a.put o.dst v) w'):o.wp P a w K Q:=by unfold On;rw[hr];exact hK
theorem C_{o:fA}{w':bM}{K:Act->bM->Prop}{Q:Exit->Act->bM->Prop}(hr:(execOp a.eval o).run P w= .ok .skip w')(hK:K (a.put o.dst undef) w'):o.wp P a w K Q:=by unfold On;rw[hr];exact hK
theorem jC.refl(σ:St)(c:e9):jC σ c c:=λ_ _=>⟨rfl,rfl⟩
theorem gD(cf:Ok E σ w c)(dK:fC E σ a w c){o:fA}(hd:∀d,o.dst=ah d->d<a.tmps.size){s:SV}{v:bk}
  (hs:ji E w c s v) (hk:mO σ s) (hr:(execOp a.eval o).run P w= .ok (.value v) w):gT P E σ a w c o (dw o s):=by
 intro K Q hK;obtain⟨s1,s2,s3⟩:=rY σ o s;obtain⟨h1,h2⟩:=cf.slot s3;refine yp hr (hK v w c h1 ?_ h2 (jC.refl _ _).w);refine dK.change cf h2 (jC.refl _ _) (λnm hn=>by rw[s3];exact hn) o v s1 (λd ho=>⟨hd d ho, ?_, ?_⟩)
 ·rw[s2 d ho];exact hs
 ·rw[s2 d ho];intro n hn;rw[s3];exact hk n hn
theorem Ce(cf:Ok E σ w c)(dK:fC E σ a w c){o:fA}(hd:∀d,o.dst=ah d->d<a.tmps.size){nm:aF}{ob:Obj}{s:SV}{v:bk}{w':bM}{p:Pl}{g:aF->aF->Pl}
  (hn:σ (c9 nm)= .jZ) (jy:nm<900000000)
  (mV:∀c':e9,c'.P nm=p->c'.G nm=g->(∀b,c.K b->c'.K b)->jC σ c c'->pP E w' c' nm ob)
  (pT:∀c':e9,c'.P nm=p->c'.G nm=g->∀b,fJ c' nm ob b->w.heap.size<=b)
  (IY:∀xs,ob= .box xs->∀a∈xs,jg σ a)
  (yx:∀c':e9,c'.P nm=p->c'.G nm=g->ji E w' c' s v) (AO:∀n∈cM s,n=nm\/σ (c9 n)≠ .jZ)
  (hW:∀b,b<w.heap.size->w'.heap[b]? =w.heap[b]?) (gf:w.heap.size<=w'.heap.size) (O6:w'.os=w.os) (XA:w'.tape=w.tape) (Xu:w'.output=w.output)
  (hr:(execOp a.eval o).run P w= .ok (.value v) w'):gT P E σ a w c o ((c9 nm, .o ob)::dw o s):=by
 intro K Q hK;let c':e9:=⟨λn=>if n=nm then p else c.P n,λn=>if n=nm then g else c.G n,c.K⟩
 have hP:c'.P nm=p:=bz rfl;have hG:c'.G nm=g:=bz rfl;have hA:jC σ c c':=λm hm=>by
  have:m≠nm:=by rintro rfl;rcases hm with h|h;exact h hn;omega
  exact⟨bH this,bH this⟩
 let σ1:=pM σ (c9 nm) (.o ob);obtain⟨s1,s2,s3⟩:=rY σ1 o s;have key:∀m,wr σ1 (dw o s) (c9 m)=if m=nm then .o ob else σ (c9 m):=λm=>by rw[s3];exact pZ _ _ _ _
 have iw:∀m,σ (c9 m)≠ .jZ->wr σ1 (dw o s) (c9 m)≠ .jZ:=λm hm=>by rw[key];split<;>simp_all
 have hh:=cf.change (σ':=wr σ1 (dw o s)) (w':=w') (c':=c') (λm=>m=nm) (λm hm=>by rw[key,bH hm]) iw hA
  (λb hb _=>hW b hb) gf (λ_ h=>h) (λ_ h=> .inl h) (λb hb=>ju (cf.lt b hb) gf)
  (λm x hm ho=>by subst hm;rw[key,bz rfl]at ho;cases ho;exact mV c' hP hG (λ_ h=>h) hA)
  (λm x b hm ho hf=>by subst hm;rw[key,bz rfl]at ho;cases ho;have:=pT c' hP hG b hf;exact⟨.inr this,λhk=>by have:=cf.lt b hk;omega⟩)
  (λm x m' x' b hm xA _ _ _ _=>by rw[hm,xA])
  (λm xs hm ho y hy n kJ=>by subst hm;rw[key,bz rfl]at ho;cases ho;exact iw n (IY xs rfl y hy n kJ)) O6 XA Xu
 refine yp hr (hK v w' c' hh.1 ?_ hh.2 hA.w);refine dK.change cf hh.2 hA iw o v (λn kJ=>by rw[s1 n kJ];exact jo _ _ _ _) (λd ho=>⟨hd d ho, ?_, ?_⟩)
 ·show ji E w' c' (slot (wr σ1 (dw o s)) d) v;rw[s2 d ho];exact yx c' hP hG
 ·show mO (wr σ1 (dw o s)) (slot (wr σ1 (dw o s)) d);rw[s2 d ho];intro n kJ;rw[key];split
  ·simp
  ·rename_i h;exact(AO n kJ).resolve_left h
theorem tu(cf:Ok E σ w c)(dK:fC E σ a w c){o:fA}(hd:∀d,o.dst=ah d->d<a.tmps.size){nm:aF}{ob ob':Obj}{s:SV}{v:bk}{w':bM}
  (hn:σ (c9 nm)= .o ob) (mV:pP E w' c nm ob') (pT:∀b,fJ c nm ob' b->fJ c nm ob b)
  (IY:∀xs,ob'= .box xs->∀a∈xs,jg σ a)
  (yx:ji E w' c s v) (AO:mO σ s)
  (hW:∀b,b<w.heap.size->¬fJ c nm ob b->w'.heap[b]? =w.heap[b]?) (gf:w.heap.size<=w'.heap.size) (O6:w'.os=w.os) (XA:w'.tape=w.tape) (Xu:w'.output=w.output)
  (hr:(execOp a.eval o).run P w= .ok (.value v) w'\/((execOp a.eval o).run P w= .ok .skip w'/\v=undef)):gT P E σ a w c o ([(c9 nm, .o ob')]++dw o s):=by
 intro K Q hK;let σ1:=pM σ (c9 nm) (.o ob');obtain⟨s1,s2,s3⟩:=rY σ1 o s;have key:∀m,wr σ1 (dw o s) (c9 m)=if m=nm then .o ob' else σ (c9 m):=λm=>by rw[s3];exact pZ _ _ _ _
 have iw:∀m,σ (c9 m)≠ .jZ->wr σ1 (dw o s) (c9 m)≠ .jZ:=λm hm=>by rw[key];split<;>simp_all
 have gq:∀b,fJ c nm ob b->j5 (λm=>m=nm) σ c b:=λb hb=>⟨nm,ob,rfl,hn,hb⟩
 have hh:=cf.change (σ':=wr σ1 (dw o s)) (w':=w') (c':=c) (λm=>m=nm) (λm hm=>by rw[key,bH hm]) iw (jC.refl _ _)
  (λb hb Xr=>hW b hb (λhf=>Xr (gq b hf))) gf (λ_ h=>h) (λ_ h=> .inl h) (λb hb=>ju (cf.lt b hb) gf)
  (λm x hm ho=>by subst hm;rw[key,bz rfl]at ho;cases ho;exact mV)
  (λm x b hm ho hf=>by subst hm;rw[key,bz rfl]at ho;cases ho;exact⟨.inl (gq b (pT b hf)),cf.kk _ _ b hn (pT b hf)⟩)
  (λm x m' x' b hm xA _ _ _ _=>by rw[hm,xA])
  (λm xs hm ho y hy n kJ=>by subst hm;rw[key,bz rfl]at ho;cases ho;exact iw n (IY xs rfl y hy n kJ)) O6 XA Xu
 have aiM:fC E (wr σ1 (dw o s)) (a.put o.dst v) w' c:=by
  refine dK.change cf hh.2 (jC.refl _ _) iw o v (λn kJ=>by rw[s1 n kJ];exact jo _ _ _ _) (λd ho=>⟨hd d ho, ?_, ?_⟩)
  ·rw[s2 d ho];exact yx
  ·rw[s2 d ho];intro n kJ;rw[key];split
   ·simp
   ·exact AO n kJ
 rcases hr with hr|⟨hr,rfl⟩
 ·exact yp hr (hK v w' c hh.1 aiM hh.2 (jC.refl _ _).w)
 ·exact C_ hr (hK undef w' c hh.1 aiM hh.2 (jC.refl _ _).w)
end
end Go.FG

namespace Go.FG
theorem aec:∀{x y:Ck},ckB x y=ai->x=y:=by intro x y h;cases x<;>cases y<;>simp[ckB]at h<;>first|rfl|(subst h;rfl)|(have:=aU h;subst this;rfl)
theorem rK:∀{a b:aA Ck},ql a b=ai->a=b
 |[],[],_=>rfl
 |[],_::_,h=>by simp[ql]at h
 |_::_,[],h=>by simp[ql]at h
 |x::l,y::r,h=>by
  simp only[ql,aL]at h;rw[aec h.1,rK h.2]
structure aqL (E:fO) (w:bM) (K:aF->Prop) (b o n c e:aF) (xs:aQ) (ti:TI) (U:aF->aF->bk):Prop where
 nn:n=xs.length
 ty:E.ty e=ah ti
 cap:xs.length<=c
 mx:c<=maxLen
 kb:K b
 sh:∀y∈xs,y.map CV.kd=ti.ks
 cell:∀i j y x,xs[i]? =ah y->y[j]? =ah x->w.cell? (ad b (o+i*ti.ks.length+j))=ah (U i j)
 inn:∀i j y x,xs[i]? =ah y->y[j]? =ah x->c_ E w K (U i j) x
theorem c_.Jf{E:fO}{w:bM}{K:aF->Prop}{b o n c e:aF}{xs:aQ}(h:c_ E w K (.slice (ah (ad b o)) n c) (.l e xs))(hn:0<xs.length):∃ti U,aqL E w K b o n c e xs ti U:=by
 generalize hv:Value.slice (ah (ad b o)) n c=v at h;generalize hx:CV.l e xs=x at h;cases h with
 |i=>cases hx
 |b=>cases hx
 |s=>cases hx
 |nl=>cases hx;simp at hn
 |l e xs b o c ti U ht hc hm hK hs hcell gq=>cases hx;cases hv;exact⟨ti,U,rfl,ht,hc,hm,hK,hs,hcell,gq⟩
theorem Kx{E:fO}{w:bM}{c:e9}{u:bk}{x:CV}(h:c_ E w c.K u x):eG E w c (dec x.kd x) u:=by
 cases x with
 |i k n=>cases h;rfl
 |b=>cases h;rfl
 |s=>cases h with|s _ ho=>exact⟨rfl,ho⟩
 |l e xs=>exact h
theorem Nw{E:fO}{w:bM}{c:e9}{u:bk}{x:CV}(h:c_ E w c.K u x):eG E w c (Y0 x) u:=by
 cases x with
 |i k n=>cases h;rfl
 |b=>cases h;rfl
 |s=>cases h with|s _ ho=>exact⟨rfl,ho⟩
 |l e xs=>exact h
theorem pd{E:fO}{w:bM}{c:e9}{u:bk}{x:CV}(hl:ur x=ak)(h:Sc u x):eG E w c (dec x.kd x) u:=by
 cases x with
 |i=>exact h.1
 |b=>exact h.1
 |s=>exact h
 |l=>simp[ur]at hl
theorem Po(k:Ck)(x:CV):bQ (dec k x)=[]:=by cases k<;>rfl
theorem Ct(x:CV):bQ (Y0 x)=[]:=by cases x<;>rfl
theorem lR(xs:aQ)(i:aF):∀(ks:aA Ck) (j q:aF),(uZ xs i j ks)[q]? =(ks[q]?).map λk=>dec k (ar xs i (j+q)):=by
 intro ks;induction ks with
 |nil=>intro j q;simp[uZ]
 |cons k ks ih=>
  intro j q;cases q with
  |zero=>simp[uZ]
  |succ q=>simp only[uZ,dO,ih];congr 2;funext k;congr 2;omega
theorem Iv(nm:aF)(xs:aQ)(i:aF):∀(ks:aA Ck) (j q:aF),(AJ nm xs i j ks)[q]? =(ks[q]?).map λk=>match k with| .l _=>AV.inn nm i (j+q)|k=>dec k (ar xs i (j+q)):=by
 intro ks;induction ks with
 |nil=>intro j q;simp[AJ]
 |cons k ks ih=>
  intro j q;cases q with
  |zero=>cases k<;>simp[AJ]
  |succ q=>
   have e:j+1+q=j+(q+1):=by omega
   cases k<;>simp only[AJ,dO,ih,e]
theorem fE{xs:aQ}{i j:aF}{y:aA CV}{x:CV}(hi:xs[i]? =ah y)(hj:y[j]? =ah x):ar xs i j=x:=by simp[ar,ka,hi,hj]
theorem kM(xs:aQ)(i:aF):∀(ks:aA Ck) (j:aF),(uZ xs i j ks).length=ks.length:=by
 intro ks;induction ks with
 |nil=>intro j;rfl
 |cons k ks ih=>intro j;simp[uZ,ih]
theorem Ad(nm:aF)(xs:aQ)(i:aF):∀(ks:aA Ck) (j:aF),(AJ nm xs i j ks).length=ks.length:=by
 intro ks;induction ks with
 |nil=>intro j;rfl
 |cons k ks ih=>intro j;cases k<;>simp[AJ,ih]
theorem qP{ks ks2:aA Ck}{j:aF}{y:aA CV}(hy:y.map CV.kd=ks)(h:(ks.drop j).take ks2.length=ks2){q:aF}(hq:q<ks2.length):∃x,y[j+q]? =ah x/\ks2[q]? =ah x.kd:=by
 have h1:ks2[q]? =ks[j+q]? :=by rw[<-h,d_,bz hq,dQ]
 rw[<-hy,bL]at h1;cases hx:y[j+q]? with
 |none=>rw[hx]at h1;simp at h1;omega
 |some x=>exact⟨x,rfl,by rw[h1,hx];rfl⟩
section
variable {P:c5} {E:fO} {σ:St} {a:Act} {w:bM} {c:e9}
theorem uD{p:Pl}{G:aF->aF->Pl}{xs:aQ}{ks:aA Ck}{i j e2:aF}(gd:jh w p xs (λi j u x=>if ai=ai then XC E w G i j u x else c_ E w c.K u x))(mK:∀y∈xs,y.map CV.kd=ks)(hi:i<p.n)(hk:ks[j]? =ah (.l e2)):
  ∃ys y,xs[i]? =ah y/\y[j]? =ah (.l e2 ys)/\∃u,XC E w G i j u (.l e2 ys):=by
 have mb:i<xs.length:=by rw[<-gd.n];exact hi
 have hy:xs[i]? =ah xs[i]:=by simp[mb]
 have h1:=mK xs[i] (bB mb);rw[<-h1,bL]at hk;cases hx:xs[i][j]? with
 |none=>rw[hx]at hk;cases hk
 |some x=>
  rw[hx]at hk;cases x with
  |l e ys=>
   cases hk;have jz:p.nil=false:=by
    cases hn:p.nil with
    |false=>rfl
    |true=>have:=(gd.nil hn).1;subst this;simp at mb
   obtain⟨vals,_,_,_,_,oU⟩:=gd.mem jz;obtain⟨u,_,hr⟩:=oU i _ j _ hy hx;rw[bz rfl]at hr;exact⟨ys,_,hy,hx,u,hr⟩
  |i=>cases hk
  |b=>cases hk
  |s=>cases hk
theorem iq{ks:aA Ck}(h:plain ks=ai){y:aA CV}(hy:y.map CV.kd=ks){j:aF}{x:CV}(hx:y[j]? =ah x):ur x=false:=by
 have h1:x.kd∈ks:=by rw[<-hy];exact cU.2 ⟨x,aR hx,rfl⟩
 have h2:=bn.1 h _ h1;cases x<;>simp_all [CV.kd,ur]
structure RM (E:fO) (σ:St) (w:bM) (c:e9) (ti:TI) (v:bk) (xs:aA AV):Prop where
 ex:∃(b o:aF) (cs:aA bk),v= .pointer (ah (ad b o))/\cs.length=ti.ks.length/\(∀(j:aF) (u:bk),cs[j]? =ah u->w.cell? (ad b (o+j))=ah u)/\
  xs.length=ti.ks.length/\(∀(j:aF) (x:AV),xs[j]? =ah x->∃u:bk,cs[j]? =ah u/\eG E w c x u)
 kn:∀x∈xs,jg σ x
theorem mC{ti:TI}{b o:aF}{xs:aA AV}(hl:xs.length=ti.ks.length)(h:∀(j:aF) (x:AV),xs[j]? =ah x->∃u:bk,w.cell? (ad b (o+j))=ah u/\eG E w c x u)(hk:∀x∈xs,jg σ x):
  RM E σ w c ti (.pointer (ah (ad b o))) xs:=by
 refine⟨⟨b,o,(cw xs.length).map (λj=>(w.cell? (ad b (o+j))).getD undef),rfl,by simp[hl], ?_,hl, ?_⟩,hk⟩
 ·intro j u hu;simp only[bL]at hu;by_cases hj:j<xs.length
  ·obtain⟨u',sg,_⟩:=h j xs[j] (by simp[hj]);simp only[hj,vG,je,sg,yM,jA]at hu;rw[sg,hu]
  ·simp[kY (l:=cw xs.length) (by simpa using hj)]at hu
 ·intro j x hx;obtain⟨u,hu,hv⟩:=h j x hx;refine⟨u, ?_,hv⟩
  have hj:j<xs.length:=(aT.1 hx).1;simp[hj,hu]
theorem Tz(cf:Ok E σ w c){ti:TI}{p:AV}{v:bk}{xs:aA AV}(hp:eG E w c p v)(h:(tD E ti p).val σ=ah xs):RM E σ w c ti v xs:=by
 have YY:∀(n:aF) (k:Ck) (x:CV),n∈bQ (dec k x)->σ (c9 n)≠ .jZ:=λn k x hn=>by rw[Po]at hn;simp at hn
 cases p with
 |bp nm j=>
  obtain⟨o,ho,h2⟩:=Rd.bind_some h;have mV:=cf.obj nm o (dA ho);obtain rfl:v=_:=hp;cases o with
  |box ys=>
   obtain⟨hle,h3⟩:=cR h2;have hle:=cL hle;obtain rfl:=aJ h3;obtain⟨vals,hb,hs,hc⟩:=mV;refine mC (by simp;omega) (λq x hx=> ?_) (λx hx=>cf.kn nm ys (dA ho) x (kZ (k_ hx)));rw[d_]at hx;split at hx
   ·rw[dQ]at hx;obtain⟨u,hu,hv⟩:=hc (j+q) x hx;exact⟨u,(hb.cell (j+q)).trans hu,hv⟩
   ·cases hx
  |n9 cs=>
   obtain⟨hle,h3⟩:=cR h2;have hle:=cL hle;obtain rfl:=aJ h3;refine mC (by simp;omega) (λq x hx=> ?_) (λx hx=> ?_)
   ·rw[bL,d_]at hx;split at hx
    ·rw[dQ]at hx;cases hy:cs[j+q]? with
     |none=>rw[hy]at hx;cases hx
     |some y=>rw[hy]at hx;cases hx;obtain⟨u,hu,hv⟩:=mV.2 (j+q) y hy;exact⟨u,hu,Nw hv⟩
    ·cases hx
   ·obtain⟨y,_,rfl⟩:=cU.1 hx;intro n hn;rw[Ct]at hn;simp at hn
  |row=>simp at h2
  |fQ=>simp at h2
  |dead=>simp at h2
 |fp cs j=>
  obtain⟨hle,h3⟩:=cR h;have hle:=cL hle;obtain rfl:=aJ h3;obtain⟨b,rfl,hb⟩:=hp;refine mC (by simp;omega) (λq x hx=> ?_) (λx hx=> ?_)
  ·rw[bL,d_]at hx;split at hx
   ·rw[dQ]at hx;cases hy:cs[j+q]? with
    |none=>rw[hy]at hx;cases hx
    |some y=>rw[hy]at hx;cases hx;obtain⟨u,hu,hv⟩:=hb.2 (j+q) y hy;exact⟨u,hu,Nw hv⟩
   ·cases hx
  ·obtain⟨y,_,rfl⟩:=cU.1 hx;intro n hn;rw[Ct]at hn;simp at hn
 |sp e ys i j=>
  obtain⟨te,ht,h2⟩:=Rd.bind_some h;have ht:=dW ht;obtain⟨hk,h3⟩:=cR h2;have hk:=rK hk;obtain rfl:=aJ h3;obtain⟨b,o,cp,ti2,hh,hi,GW,rfl⟩:=hp;obtain rfl:te=ti2:=aJ (ht.symm.trans GW);refine mC (kM _ _ _ _) (λq x hx=> ?_) (λx hx=> ?_)
  ·rw[lR]at hx;obtain⟨ti3,U,hL⟩:=hh.Jf (by omega);obtain rfl:te=ti3:=aJ (ht.symm.trans hL.ty);have hq:q<ti.ks.length:=by
    cases hq:ti.ks[q]? with
    |none=>rw[hq]at hx;cases hx
    |some k=>exact(aT.1 hq).1
   have hy:ys[i]? =ah ys[i]:=by simp[hi]
   obtain⟨z,hz,vV⟩:=qP (hL.sh ys[i] (bB hi)) hk hq;rw[vV]at hx;cases hx;rw[fE hy hz];exact⟨U i (j+q),by have:=hL.cell i (j+q) _ z hy hz;rwa[show o+i*te.ks.length+j+q=o+i*te.ks.length+(j+q)by omega],Kx (hL.inn i (j+q) _ z hy hz)⟩
  ·obtain⟨q,hq⟩:=bY hx;rw[lR]at hq;cases vV:ti.ks[q]? with
   |none=>rw[vV]at hq;cases hq
   |some k=>rw[vV]at hq;cases hq;intro n hn;exact YY n _ _ hn
 |rp nm i j=>
  obtain⟨o,ho,h2⟩:=Rd.bind_some h;have ho:=dA ho;have mV:=cf.obj nm o ho;obtain⟨hi,rfl⟩:=hp;cases o with
  |row e ex ys=>
   obtain⟨te,ht,h2⟩:=Rd.bind_some h2;have ht:=dW ht;obtain⟨hk,h3⟩:=cR h2;have hk:=rK hk;have h3:(ex=ai/\plain ti.ks=ai/\xs=uZ ys i j ti.ks)\/((ex=ak\/zu nm=ak)/\xs=bif ex then AJ nm ys i j ti.ks else uZ ys i j ti.ks):=by
    cases hF:(ex&&zu nm)with
    |true=>rw[hF,au]at h3;obtain⟨sO,h3⟩:=cR h3;rw[aL]at hF;exact .inl ⟨hF.1,sO,(aJ h3).symm⟩
    |false=>
     rw[hF,ax]at h3;refine .inr ⟨?_,(aJ h3).symm⟩;cases ex with
     |false=>exact .inl rfl
     |true=>exact .inr (by simpa using hF)
   obtain⟨⟨ti2,GW,gf,mK⟩,gd,_⟩:=mV;obtain rfl:te=ti2:=aJ (ht.symm.trans GW);have jz:(c.P nm).nil=false:=by
    cases hn:(c.P nm).nil with
    |false=>rfl
    |true=>have:=(gd.nil hn).1;subst this;rw[gd.n]at hi;simp at hi
   obtain⟨vals,hb,SE,_,mH,oU⟩:=gd.mem jz;have mb:i<ys.length:=by rw[<-gd.n];exact hi
   have hy:ys[i]? =ah ys[i]:=by simp[mb]
   rcases h3 with ⟨rfl,sO,rfl⟩|h3
   ·refine mC (kM _ _ _ _) (λq x hx=> ?_) (λx hx=> ?_)
    ·have hq:q<ti.ks.length:=by have:=(aT.1 hx).1;simpa [kM]using this
     obtain⟨z,hz,vV⟩:=qP (mK ys[i] (bB mb)) hk hq;obtain⟨u,hu,hr⟩:=oU i _ (j+q) z hy hz;rw[bz rfl]at hr;rw[lR,vV]at hx;cases hx;refine⟨u, ?_, ?_⟩
     ·rw[hb.cell];rw[<-hu];congr 1;omega
     ·have hzk:=bn.1 sO z.kd (aR vV);show eG E w c (dec z.kd (ar ys i (j+q))) u;rw[fE hy hz];cases z with
      |l e2 zs=>cases hzk
      |i k n=>exact pd rfl hr
      |b t=>exact pd rfl hr
      |s t=>exact pd rfl hr
    ·obtain⟨q,hq⟩:=bY hx;intro n hn;rw[lR]at hq;cases vV:ti.ks[q]? with
     |none=>rw[vV]at hq;cases hq
     |some k=>rw[vV]at hq;cases hq;exact YY n _ _ hn
   obtain⟨hFn,rfl⟩:=h3;refine mC (by cases ex<;>simp[kM,Ad]) (λq x hx=> ?_) (λx hx=> ?_)
   ·have hq:q<ti.ks.length:=by have:=(aT.1 hx).1;cases ex<;>simpa [kM,Ad]using this
    obtain⟨z,hz,vV⟩:=qP (mK ys[i] (bB mb)) hk hq;obtain⟨u,hu,hr⟩:=oU i _ (j+q) z hy hz;refine⟨u, ?_, ?_⟩
    ·rw[hb.cell];rw[<-hu];congr 1;omega
    ·cases ex with
     |false=>rw[bH (by simp)]at hr;have hx:(uZ ys i j ti.ks)[q]? =ah x:=hx;rw[lR,vV]at hx;cases hx;rw[fE hy hz];exact Kx hr
     |true=>
      rw[bz rfl]at hr;have hx:(AJ nm ys i j ti.ks)[q]? =ah x:=hx;rw[Iv,vV]at hx;cases z with
      |l e2 zs=>cases hx;exact⟨⟨hi,hr.1⟩,hFn.resolve_left (by simp)⟩
      |i k n=>cases hx;rw[fE hy hz];exact pd rfl hr
      |b t=>cases hx;rw[fE hy hz];exact pd rfl hr
      |s t=>cases hx;rw[fE hy hz];exact pd rfl hr
   ·obtain⟨q,hq⟩:=bY hx;intro n hn;cases ex with
    |false=>
     have hq:(uZ ys i j ti.ks)[q]? =ah x:=hq;rw[lR]at hq;cases vV:ti.ks[q]? with
     |none=>rw[vV]at hq;cases hq
     |some k=>rw[vV]at hq;cases hq;exact YY n _ _ hn
    |true=>
     have hq:(AJ nm ys i j ti.ks)[q]? =ah x:=hq;rw[Iv]at hq;cases vV:ti.ks[q]? with
     |none=>rw[vV]at hq;cases hq
     |some k=>
      rw[vV]at hq;cases k with
      |l e2=>cases hq;simp[bQ]at hn;subst hn;rw[ho];simp
      |i=>cases hq;exact YY n _ _ hn
      |b=>cases hq;exact YY n _ _ hn
      |s=>cases hq;exact YY n _ _ hn
      |o=>cases hq;exact YY n _ _ hn
  |fQ e ys=>
   obtain⟨te,ht,h2⟩:=Rd.bind_some h2;have ht:=dW ht;obtain⟨hk,h3⟩:=cR h2;have hk:=rK hk;obtain rfl:=aJ h3;obtain⟨hh,hn,ti2,GW,gf⟩:=mV;obtain rfl:te=ti2:=aJ (ht.symm.trans GW);have mb:i<ys.length:=by rw[<-hn];exact hi
   have hy:ys[i]? =ah ys[i]:=by simp[mb]
   have jz:(c.P nm).nil=false:=by
    cases hq:(c.P nm).nil with
    |false=>rfl
    |true=>unfold lS at hh;rw[bz hq]at hh;cases hh;simp at mb
   unfold lS at hh;rw[bH (by simp[jz]),hn]at hh;refine mC (kM _ _ _ _) (λq x hx=> ?_) (λx hx=> ?_)
   ·rw[lR]at hx;obtain⟨ti3,U,hL⟩:=hh.Jf (by omega);obtain rfl:te=ti3:=aJ (ht.symm.trans hL.ty);have hq:q<ti.ks.length:=by
     cases hq:ti.ks[q]? with
     |none=>rw[hq]at hx;cases hx
     |some k=>exact(aT.1 hq).1
    obtain⟨z,hz,vV⟩:=qP (hL.sh ys[i] (bB mb)) hk hq;rw[vV]at hx;cases hx;rw[fE hy hz];exact⟨U i (j+q),by have:=hL.cell i (j+q) _ z hy hz;rw[<-this];congr 2;rw[gf];omega,Kx (hL.inn i (j+q) _ z hy hz)⟩
   ·obtain⟨q,hq⟩:=bY hx;rw[lR]at hq;cases vV:ti.ks[q]? with
    |none=>rw[vV]at hq;cases hq
    |some k=>rw[vV]at hq;cases hq;intro n hn;exact YY n _ _ hn
  |box=>simp at h2
  |n9=>simp at h2
  |dead=>simp at h2
 |ip nm i j i2 j2=>
  obtain⟨o,ho,h2⟩:=Rd.bind_some h;have ho:=dA ho;have mV:=cf.obj nm o ho;obtain⟨⟨mA,hi,rfl⟩,hFp⟩:=hp;cases o with
  |row e ex ys=>
   cases ex with
   |false=>simp at h2
   |true=>
    obtain⟨te,ht,h2⟩:=Rd.bind_some h2;have ht:=dW ht;split at h2
    ·rename_i e2 Aa;obtain⟨t2,GW,h2⟩:=Rd.bind_some h2;have GW:=dW GW;obtain⟨hk,h3⟩:=cR h2;have hk:=rK hk;obtain rfl:=aJ h3;obtain⟨⟨tj,htj,gf,mK⟩,gd,_⟩:=mV;obtain rfl:te=tj:=aJ (ht.symm.trans htj);obtain⟨zs,y,hy,hyj,uu,_,tk,GX,sO,KY,DS,oK⟩:=uD (c:=c) gd mK mA Aa;obtain rfl:t2=tk:=aJ (GW.symm.trans GX);rw[fE hy hyj];refine mC (kM _ _ _ _) (λq x hx=> ?_) (λx hx=> ?_)
     ·rw[lR]at hx;have hq:q<ti.ks.length:=by
       cases hq:ti.ks[q]? with
       |none=>rw[hq]at hx;cases hx
       |some k=>exact(aT.1 hq).1
      have vg:i2<zs.length:=by rw[<-oK.n];exact hi
      have Cm:(c.G nm i j).nil=false:=by
       cases hn:(c.G nm i j).nil with
       |false=>rfl
       |true=>have:=(oK.nil hn).1;subst this;simp at vg
      obtain⟨vals,hb,_,_,_,oU⟩:=oK.mem Cm;have hzi:zs[i2]? =ah zs[i2]:=by simp[vg]
      obtain⟨z,hz,vV⟩:=qP (DS zs[i2] (bB vg)) hk hq;obtain⟨u,hu,hr⟩:=oU i2 _ (j2+q) z hzi hz;rw[vV]at hx;cases hx;refine⟨u, ?_, ?_⟩
      ·rw[hb.cell,<-hu];congr 1;omega
      ·show eG E w c (dec z.kd (ar zs i2 (j2+q))) u;rw[fE hzi hz];exact pd (iq sO (DS _ (bB vg)) hz) hr
     ·obtain⟨q,hq⟩:=bY hx;rw[lR]at hq;cases vV:ti.ks[q]? with
      |none=>rw[vV]at hq;cases hq
      |some k=>rw[vV]at hq;cases hq;intro n hn;exact YY n _ _ hn
    ·simp at h2
  |fQ=>simp at h2
  |box=>simp at h2
  |n9=>simp at h2
  |dead=>simp at h2
 |i=>simp[tD]at h
 |b=>simp[tD]at h
 |s=>simp[tD]at h
 |sh=>simp[tD]at h
 |nl=>simp[tD]at h
 |own=>simp[tD]at h
 |vw=>simp[tD]at h
 |inn=>simp[tD]at h
 |fn=>simp[tD]at h
end
end Go.FG

namespace Go.FG
section
variable {P:c5} {E:fO} {σ:St} {a:Act} {w:bM} {c:e9} {o:fA} {nm:aF} {e:sR}
theorem iW{s:Sem bk}{v:bk}{w':bM}(hr:s.run P w= .ok v w'):(do pure (Next.value (<-s)):Sem Next).run P w= .ok (.value v) w':=by simp only[ch,hr,bG,cT]
theorem fW(cf:Ok E σ w c)(dK:fC E σ a w c)(hd:∀d,o.dst=ah d->d<a.tmps.size){s:SV}{v:bk}(h:(val o s).val σ=ah e)(hs:ji E w c s v)(hk:mO σ s)(hr:(execOp a.eval o).run P w= .ok (.value v) w):gT P E σ a w c o e.ws:=by obtain rfl:=aJ h;exact gD cf dK hd hs hk hr
theorem E6(cf:Ok E σ w c)(dK:fC E σ a w c)(hd:∀d,o.dst=ah d->d<a.tmps.size){b:aW}{x:AV}{v:bk}(h:(LQ o b x).val σ=ah e)(hc:e.cond=ai)(hs:b=ai->eG E w c x v)(hk:jg σ x)(hr:b=ai->(execOp a.eval o).run P w= .ok (.value v) w):gT P E σ a w c o e.ws:=by obtain rfl:=aJ h;have hc:b=true:=hc;exact gD cf dK hd (hs hc) (λn hn=>hk n (by simpa [cM]using hn)) (hr hc)
theorem uv{σ:St}{x:AV}(h:bQ x=[]):jg σ x:=λn hn=>by rw[h]at hn;simp at hn
theorem NA(cf:Ok E σ w c)(dK:fC E σ a w c)(hd:∀d,o.dst=ah d->d<a.tmps.size){x:dz}(ho:o.op= .move x\/o.op= .assign x)(h:(me E nm o).val σ=ah e):gT P E σ a w c o e.ws:=by
 have h':((Hc x).bind λv=>val o v).val σ=ah e:=by rcases ho with ho|ho<;>simpa [me,ho]using h
 obtain⟨v,h1,h2⟩:=Rd.bind_some h';obtain⟨hv,hk⟩:=mr dK h1;refine fW cf dK hd h2 hv hk ?_;rcases ho with ho|ho<;>(unfold execOp;rw[ho];rfl)
theorem Jr(cf:Ok E σ w c)(dK:fC E σ a w c)(hd:∀d,o.dst=ah d->d<a.tmps.size){x:dz}(ho:o.op= .nilCheck x)(h:(me E nm o).val σ=ah e):gT P E σ a w c o e.ws:=by
 simp only[me,ho]at h;obtain⟨p,h1,h⟩:=Rd.bind_some h;obtain⟨ex,kx⟩:=iY dK h1;cases p with
 |bp n j=>have uo:a.eval x= .pointer (ah (ad (c.P n).blk j)):=ex;refine fW cf dK hd h (v:=a.eval x) ex (λn hn=>kx n (by simpa [cM]using hn)) ?_;unfold execOp;rw[ho];simp only[uo];rfl
 |rp n i j=>have uo:a.eval x= .pointer (ah (ad (c.P n).blk ((c.P n).off+i*(c.P n).sz+j))):=ex.2;refine fW cf dK hd h (v:=a.eval x) ex (λn hn=>kx n (by simpa [cM]using hn)) ?_;unfold execOp;rw[ho];simp only[uo];rfl
 |_=>cases h
theorem Y6(cf:Ok E σ w c)(dK:fC E σ a w c)(hd:∀d,o.dst=ah d->d<a.tmps.size){x y z:dz}(ho:o.op= .pick x y z)(h:(me E nm o).val σ=ah e)(hc:e.cond=ai):gT P E σ a w c o e.ws:=by
 simp only[me,ho]at h;obtain⟨cx,h1,h⟩:=Rd.bind_some h;obtain⟨vy,h2,h⟩:=Rd.bind_some h;obtain⟨vz,h3,h⟩:=Rd.bind_some h;obtain⟨ex,kx⟩:=iY dK h1;obtain⟨ey,ky⟩:=mr dK h2;obtain⟨ez,kz⟩:=mr dK h3;have run:∀b,a.eval x= .bool b->(execOp a.eval o).run P w= .ok (.value (if b then a.eval y else a.eval z)) w:=by intro b hb;unfold execOp;rw[ho];simp only[hb,asBool,ch,cT,bG]
 cases cx with
 |b b=>
  replace ex:a.eval x= .bool b:=ex;have both:∀p q,vy= .v ak [.b p]->vz= .v ak [.b q]->gT P E σ a w c o e.ws:=by
   rintro p q rfl rfl;refine fW cf dK hd h (v:=if b then a.eval y else a.eval z) ?_ (λn hn=>by simp[cM,bQ]at hn) (run b ex);cases b
   ·exact ez
   ·exact ey
  have lft:vy= .j_ []->gT P E σ a w c o e.ws:=by
   rintro rfl;replace h:(Rd.ret (⟨!b,dw o vz⟩:sR)).val σ=ah e:=by cases vz<;>exact h
   obtain rfl:=aJ h;have hb:b=false:=by simpa using hc
   subst hb;exact gD cf dK hd ez kz (run ak ex)
  have rgt:vz= .j_ []->vy≠ .j_ []->gT P E σ a w c o e.ws:=by
   rintro rfl iw;replace h:(Rd.ret (⟨b,dw o vy⟩:sR)).val σ=ah e:=by
    cases vy with
    |un=>exact h
    |j_ l=>cases l with
     |nil=>exact cJ rfl iw
     |cons=>exact h
    |v g xs=>cases g<;>(rcases xs with _|⟨⟨⟩,_|⟨_,_⟩⟩<;>exact h)
   obtain rfl:=aJ h;have hb:b=true:=hc;subst hb;exact gD cf dK hd ey ky (run ai ex)
  cases vy with
  |un=>cases vz with
   |un=>simp at h
   |j_ l=>cases l with
    |nil=>exact rgt rfl (by simp)
    |cons=>simp at h
   |v=>simp at h
  |j_ l=>cases l with
   |nil=>exact lft rfl
   |cons=>cases vz with
    |un=>simp at h
    |j_ l2=>cases l2 with
     |nil=>exact rgt rfl (by simp)
     |cons=>simp at h
    |v=>simp at h
  |v g xs=>cases vz with
   |un=>simp at h
   |j_ l2=>cases l2 with
    |nil=>exact rgt rfl (by simp)
    |cons=>simp at h
   |v g2 ys=>cases g<;>cases g2<;>rcases xs with _|⟨⟨⟩,_|⟨_,_⟩⟩<;>rcases ys with _|⟨⟨⟩,_|⟨_,_⟩⟩<;>first|(simp at h;done)|exact both _ _ rfl rfl
 |i=>simp at h
 |s=>simp at h
 |sh=>simp at h
 |nl=>simp at h
 |own=>simp at h
 |vw=>simp at h
 |bp=>simp at h
 |rp=>simp at h
 |sp=>simp at h
 |inn=>simp at h
 |ip=>simp at h
 |fn=>simp at h
 |fp=>simp at h
theorem Y5(hE:eB P E)(cf:Ok E σ w c)(dK:fC E σ a w c)(hd:∀d,o.dst=ah d->d<a.tmps.size){t:aF}{p:dz}(ho:o.op= .load t p)(h:(me E nm o).val σ=ah e):gT P E σ a w c o e.ws:=by
 simp only[me,ho]at h;obtain⟨ti,h1,h⟩:=Rd.bind_some h;obtain⟨pv,h2,h⟩:=Rd.bind_some h;obtain⟨xs,h3,h⟩:=Rd.bind_some h;have ht:=dW h1;obtain⟨ep,_⟩:=iY dK h2;obtain⟨⟨b,of,cs,hv,hl,hcell,hlen,V9⟩,IY⟩:=Tz cf ep h3;have hr:=CS (P:=P) w hE ht hl hcell;refine fW cf dK hd h (v:=if ti.agg=ai then .agg cs.toArray else cs.headD .nilIface) ?_ (λn hn=>by obtain⟨x,hx,hn⟩:=bP.1 hn;exact IY x hx n hn) ?_
 ·show qj E w c ti.agg xs _;cases uq:ti.agg with
  |true=>rw[bz rfl];exact⟨cs.toArray,rfl,by simp[hl,hlen],λj x hj=>by obtain⟨u,hu,hx⟩:=V9 j x hj;exact⟨u,by simpa using hu,hx⟩⟩
  |false=>
   obtain⟨d,_,_,hn⟩:=hE.desc t ti ht;have h1:ti.ks.length=1:=by rcases hn uq with ⟨k,h,_⟩|⟨h,_⟩|⟨h,_⟩|⟨e',h,_⟩|⟨h,_⟩<;>simp[h]
   obtain⟨x,rfl⟩:=gU.1 (hlen.trans h1);obtain⟨v,rfl⟩:=gU.1 (hl.trans h1);obtain⟨u,hu,hx⟩:=V9 0 x rfl;simp at hu;subst hu;simpa [qj]using hx
 ·unfold execOp;rw[ho];exact iW (by rw[hv];exact hr)
theorem G_(hE:eB P E)(cf:Ok E σ w c)(dK:fC E σ a w c)(hd:∀d,o.dst=ah d->d<a.tmps.size){t f:aF}{p:dz}(ho:o.op= .fieldAddr t p f)(h:(me E nm o).val σ=ah e):gT P E σ a w c o e.ws:=by
 simp only[me,ho]at h;obtain⟨pv,h1,h⟩:=Rd.bind_some h;obtain⟨q,h2,h⟩:=Rd.bind_some h;obtain⟨ep,kp⟩:=iY dK h1;unfold Sk at h2;cases hf:E.fo t f with
 |none=>rw[hf]at h2;simp at h2
 |some r=>
  obtain⟨off,n⟩:=r;rw[hf]at h2;have run:∀b o',a.eval p= .pointer (ah (ad b o'))->(execOp a.eval o).run P w= .ok (.value (.pointer (ah (ad b (o'+off))))) w:=by intro b o' hp;unfold execOp;rw[ho];exact iW (by rw[hp];exact JA (P:=P) w hE hf b o')
  cases pv with
  |bp iC j=>obtain rfl:=aJ h2;exact fW cf dK hd h (s:= .v ak [.bp iC (j+off)]) (v:= .pointer (ah (ad (c.P iC).blk (j+off)))) rfl (λn hn=>kp n (by simpa [cM,bQ]using hn)) (run _ _ ep)
  |rp iC i j=>obtain rfl:=aJ h2;refine fW cf dK hd h (s:= .v ak [.rp iC i (j+off)]) ?_ (λn hn=>kp n (by simpa [cM,bQ]using hn)) (run _ _ ep.2);exact⟨ep.1,by rw[show(c.P iC).off+i*(c.P iC).sz+j+off=(c.P iC).off+i*(c.P iC).sz+(j+off)by omega]⟩
  |sp e2 xs i j=>obtain rfl:=aJ h2;obtain⟨b,o',cp,ti,e1,W6,e3,e4⟩:=ep;refine fW cf dK hd h (s:= .v ak [.sp e2 xs i (j+off)]) ?_ (λn hn=>by simp[cM,bQ]at hn) (run _ _ e4);exact⟨b,o',cp,ti,e1,W6,e3,by rw[show o'+i*ti.ks.length+j+off=o'+i*ti.ks.length+(j+off)by omega]⟩
  |ip iC i j i2 j2=>obtain rfl:=aJ h2;refine fW cf dK hd h (s:= .v ak [.ip iC i j i2 (j2+off)]) ?_ (λn hn=>kp n (by simpa [cM,bQ]using hn)) (run _ _ ep.1.2.2);exact⟨⟨ep.1.1,ep.1.2.1,by rw[show(c.G iC i j).off+i2*(c.G iC i j).sz+j2+off=(c.G iC i j).off+i2*(c.G iC i j).sz+(j2+off)by omega]⟩,ep.2⟩
  |fp cs j=>obtain rfl:=aJ h2;obtain⟨b,e1,W6⟩:=ep;exact fW cf dK hd h (s:= .v ak [.fp cs (j+off)]) ⟨b,rfl,W6⟩ (λn hn=>by simp[cM,bQ]at hn) (run _ _ e1)
  |i=>simp at h2
  |b=>simp at h2
  |s=>simp at h2
  |sh=>simp at h2
  |nl=>simp at h2
  |own=>simp at h2
  |vw=>simp at h2
  |inn=>simp at h2
  |fn=>simp at h2
theorem Ln(cf:Ok E σ w c)(dK:fC E σ a w c)(hd:∀d,o.dst=ah d->d<a.tmps.size){x:dz}{i:aF}(ho:o.op= .extract x i)(h:(me E nm o).val σ=ah e):gT P E σ a w c o e.ws:=by
 simp only[me,ho]at h;obtain⟨v,h1,h⟩:=Rd.bind_some h;obtain⟨ev,kv⟩:=mr dK h1;split at h
 ·rename_i l;split at h
  ·rename_i agg xs hl;obtain⟨vs,e1,e2,e3⟩:=ev;obtain⟨u,hu,hv⟩:=e3 i agg xs hl;refine fW cf dK hd h (v:=u) hv (λn hn=>kv n (bP.2 ⟨(agg,xs),aR hl,hn⟩)) ?_;unfold execOp;rw[ho];refine iW ?_;rw[e1];simp only[Instr.extract,hu];rfl
  ·simp at h
 ·simp at h
theorem Y7(cf:Ok E σ w c)(dK:fC E σ a w c)(hd:∀d,o.dst=ah d->d<a.tmps.size){x:dz}{op:UnOp}{t:aF}(ho:o.op= .unOp op t x)(h:(me E nm o).val σ=ah e):gT P E σ a w c o e.ws:=by
 simp only[me,ho]at h;obtain⟨v,h1,h⟩:=Rd.bind_some h;obtain⟨ev,kv⟩:=iY dK h1;cases op with
 |not=>
  cases v with
  |b b=>refine fW cf dK hd h (v:= .bool !b) rfl (λn hn=>by simp[cM,bQ]at hn) ?_;unfold execOp;rw[ho];refine iW ?_;rw[show a.eval x= .bool b from ev];rfl
  |_=>simp at h
 |neg=>
  cases v with
  |i k n=>refine fW cf dK hd h (v:= .int k (k.wrap (0-n))) rfl (λn hn=>by simp[cM,bQ]at hn) ?_;unfold execOp;rw[ho];refine iW ?_;rw[show a.eval x= .int k n from ev];rfl
  |_=>simp at h
 |_=>cases v<;>simp at h
theorem rM{E:fO}{σ:St}{t:aF}{k:Ck}(h:(pV E t).val σ=ah k):∃ti,E.ty t=ah ti/\ti.agg=ak/\ti.ks=[k]:=by
 obtain⟨ti,h1,h2⟩:=Rd.bind_some h;split at h2
 ·rename_i k' h3 h4;simp at h2;subst h2;exact⟨ti,dW h1,h3,h4⟩
 ·simp at h2
theorem kL{E:fO}{σ:St}(hE:eB P E){t e:aF}(h:(pV E t).val σ=ah (.l e)):P.underlying t=ah (.slice e):=by obtain⟨ti,h1,h2,h3⟩:=rM h;exact pe hE h1 h2 h3
theorem ll{E:fO}{σ:St}(hE:eB P E){t:aF}(h:(pV E t).val σ=ah .s):P.underlying t=ah .string:=by obtain⟨ti,h1,h2,h3⟩:=rM h;obtain⟨d,hd,_,hn⟩:=hE.desc t ti h1;rcases hn h2 with ⟨k,h,_⟩|⟨h,_⟩|⟨h,rfl⟩|⟨e',h,_⟩|⟨h,_⟩<;>rw[h3]at h<;>simp_all
theorem Ub(hE:eB P E)(cf:Ok E σ w c)(dK:fC E σ a w c)(hd:∀d,o.dst=ah d->d<a.tmps.size){x y:dz}{t:aF}(ho:o.op= .index t x y)(h:(me E nm o).val σ=ah e)(hc:e.cond=ai):gT P E σ a w c o e.ws:=by
 simp only[me,ho]at h;obtain⟨kk,h0,h⟩:=Rd.bind_some h;obtain⟨v,h1,h⟩:=Rd.bind_some h;obtain⟨⟨k,n⟩,h2,h⟩:=Rd.bind_some h;obtain⟨ev,kv⟩:=iY dK h1;have ei:=pW dK h2;cases kk with
 |s=>cases v with
  |s s=>
   have hu:=ll hE h0;refine E6 cf dK hd h hc (v:= .int .u8 ((s.data.getD n.toNat 0).toNat:aw)) (λ_=>rfl) (uv rfl) (λhb=> ?_);simp only[aL,bc]at hb;obtain⟨h0,h3⟩:=hb;unfold execOp;rw[ho];refine iW ?_;replace ev:a.eval x= .string s:=ev.1;have jy:n.toNat<s.size:=by omega
   have hg:s[n.toNat]? =ah s[n.toNat]:=by simp[jy]
   have hs:s[n.toNat]=s.data.getD n.toNat 0:=by rw[Array.getD,dif_pos (show n.toNat<s.data.size from jy)];rfl
   simp only[ev,ei,Instr.index,asIntOf,ch,cT,bG,run_underlying hu,h0,if_true,hg,hs]
  |_=>simp at h
 |_=>simp at h
end
end Go.FG

namespace Go.FG
section
variable {P:c5} {E:fO} {σ:St} {a:Act} {w:bM} {c:e9} {o:fA} {nm:aF} {e:sR}
theorem qH{α:Type}{b:aW}{x:α}{σ:St}{r:α}(h:(bif b then Rd.ret x else Rd.fail).val σ=ah r):b=ai/\r=x:=by obtain⟨h1,h2⟩:=cR h;exact⟨h1,(aJ h2).symm⟩
theorem e_{p:Pl}(h:p.nil=ak):lS p= .slice (ah (ad p.blk p.off)) p.n p.cap:=by unfold lS;rw[bH (by simp[h])]
theorem nG{p:Pl}(h:p.nil=ai):lS p= .slice aj 0 0:=by unfold lS;rw[bz h]
theorem lu{nm e:aF}{ex:aW}{xs:aQ}(cf:Ok E σ w c)(h:σ (c9 nm)= .o (.row e ex xs)):
  (c.P nm).n=xs.length/\((c.P nm).nil=ai->xs=[])/\∃ti,E.ty e=ah ti/\(c.P nm).sz=ti.ks.length/\((c.P nm).nil=ak->(c.P nm).n<=(c.P nm).cap/\(c.P nm).cap<=maxLen):=by have mV:=cf.obj nm _ h;obtain⟨ti,h1,h2,_⟩:=mV.sh;exact⟨mV.at_.n,λhn=>(mV.at_.nil hn).1,ti,h1,h2,λhn=>by obtain⟨_,_,h3,h4,_⟩:=mV.at_.mem hn;exact⟨h3,h4⟩⟩
theorem mX{nm e:aF}{xs:aQ}(cf:Ok E σ w c)(h:σ (c9 nm)= .o (.fQ e xs)):
  (c.P nm).n=xs.length/\((c.P nm).nil=ai->xs=[])/\∃ti,E.ty e=ah ti/\(c.P nm).sz=ti.ks.length:=by
 obtain⟨h1,h2,h3⟩:=cf.obj nm _ h;refine⟨h2,λhn=> ?_,h3⟩
 rw[nG hn]at h1;cases h1;rfl
theorem Ha(hE:eB P E)(cf:Ok E σ w c)(dK:fC E σ a w c)(hd:∀d,o.dst=ah d->d<a.tmps.size){x y:dz}{t:aF}(ho:o.op= .indexAddr t x y)(h:(me E nm o).val σ=ah e)(hc:e.cond=ai):gT P E σ a w c o e.ws:=by
 simp only[me,ho]at h;obtain⟨kk,h0,h⟩:=Rd.bind_some h;cases kk with
 |l el=>
  obtain⟨v,h1,h⟩:=Rd.bind_some h;obtain⟨⟨k,n⟩,h2,h⟩:=Rd.bind_some h;obtain⟨⟨b,q⟩,h3,h⟩:=Rd.bind_some h;obtain⟨ev,kv⟩:=iY dK h1;have ei:=pW dK h2;have hu:=kL hE h0;have run:∀te b o' m cp,E.ty el=ah te->a.eval x= .slice (ah (ad b o')) m cp->0<=n->n<(m:aw)->(execOp a.eval o).run P w= .ok (.value (.pointer (ah (ad b (o'+n.toNat*te.ks.length))))) w:=by intro te b o' m cp KZ hx h0 h1;unfold execOp;rw[ho];refine iW ?_;rw[hx,ei];exact JB (P:=P) w hE hu KZ b o' m cp k n h0 h1
  cases v with
  |sh e' xs=>
   obtain⟨DO,h3⟩:=qH h3;obtain⟨rfl,rfl⟩:=bW h3;have:=aU DO;subst this;obtain rfl:=aJ h;have hc:(decide (0<=n)&&decide (n<(xs.length:aw)))=true:=hc;simp only[aL,bc]at hc;obtain⟨c0,c1⟩:=hc;have ev:c_ E w c.K (a.eval x) (.l el xs):=ev;generalize hv:a.eval x=v at ev;have iw:0<xs.length:=by omega
   cases ev with
   |nl=>simp at iw
   |l _ _ bb oo cc ti U ht OX hmx hK hs hcell gq=>exact gD cf dK hd (s:= .v ak [.sp el xs n.toNat 0]) (v:= .pointer (ah (ad bb (oo+n.toNat*ti.ks.length)))) ⟨bb,oo,cc,ti, .l el xs bb oo cc ti U ht OX hmx hK hs hcell gq,by omega,ht,rfl⟩ (λn hn=>by simp[cM,bQ]at hn) (run ti bb oo _ cc ht hv c0 c1)
  |own iC=>
   obtain⟨ob,hg,h3⟩:=Rd.bind_some h3;have hg:=dA hg;have main:∀(xs:aQ),(c.P iC).n=xs.length->((c.P iC).nil=ai->xs=[])->(∃ti,E.ty el=ah ti/\(c.P iC).sz=ti.ks.length)->(b,q)=(decide (0<=n)&&decide (n<(xs.length:aw)),AV.rp iC n.toNat 0)->gT P E σ a w c o e.ws:=by
    intro xs hn jz XB hbq;obtain⟨rfl,rfl⟩:=bW hbq;obtain rfl:=aJ h;have hc:(decide (0<=n)&&decide (n<(xs.length:aw)))=true:=hc;simp only[aL,bc]at hc;obtain⟨c0,c1⟩:=hc;obtain⟨ti,ht,gf⟩:=XB;have O4:(c.P iC).nil=false:=by
     cases hq:(c.P iC).nil with
     |false=>rfl
     |true=>rw[jz hq]at c1;simp at c1;omega
    have hx:a.eval x= .slice (ah (ad (c.P iC).blk (c.P iC).off)) (c.P iC).n (c.P iC).cap:=by rw[<-e_ O4];exact ev
    refine gD cf dK hd (s:= .v ak [.rp iC n.toNat 0]) (v:= .pointer (ah (ad (c.P iC).blk ((c.P iC).off+n.toNat*ti.ks.length)))) ⟨by omega,by rw[gf];rfl⟩ (λm hm=>by simp[cM,bQ]at hm;subst hm;rw[hg];simp) (run ti _ _ _ _ ht hx c0 (by rw[hn];exact c1))
   cases ob with
   |row e' ex xs=>obtain⟨DO,h4⟩:=qH h3;have:=aU DO;subst this;obtain⟨i1,i2,ti,i3,i4,_⟩:=lu cf hg;exact main xs i1 i2 ⟨ti,i3,i4⟩ h4
   |fQ e' xs=>obtain⟨DO,h4⟩:=qH h3;have:=aU DO;subst this;obtain⟨i1,i2,i3⟩:=mX cf hg;exact main xs i1 i2 i3 h4
   |_=>simp at h3
  |vw iC lo hi=>
   obtain⟨ob,hg,h3⟩:=Rd.bind_some h3;have hg:=dA hg;have main:∀(xs:aQ),(c.P iC).n=xs.length->(∃ti,E.ty el=ah ti/\(c.P iC).sz=ti.ks.length)->(b,q)=(decide (0<=n)&&decide (n<((hi-lo:aF):aw)),AV.rp iC (lo+n.toNat) 0)->gT P E σ a w c o e.ws:=by
    intro xs hn XB hbq;obtain⟨rfl,rfl⟩:=bW hbq;obtain rfl:=aJ h;have hc:(decide (0<=n)&&decide (n<((hi-lo:aF):aw)))=true:=hc;simp only[aL,bc]at hc;obtain⟨c0,c1⟩:=hc;obtain⟨ti,ht,gf⟩:=XB;obtain⟨v1,v2,v3,v4⟩:=ev;have O4:(c.P iC).nil=false:=by
     cases hq:(c.P iC).nil with
     |false=>rfl
     |true=>
      obtain⟨f1,_⟩:(c.P iC).n=0/\True:=by
       have mV:=cf.obj iC _ hg;rw[hn];cases ob with
       |row e' ex ys=>obtain⟨j1,j2,_⟩:=lu cf hg;rw[<-hn,j1,j2 hq];simp
       |fQ e' ys=>obtain⟨j1,j2,_⟩:=mX cf hg;rw[<-hn,j1,j2 hq];simp
       |_=>simp at h3
      omega
    rcases v4 O4 with ⟨u1,hx⟩|⟨u1,oo,u2,hx⟩
    ·refine gD cf dK hd (s:= .v ak [.rp iC (lo+n.toNat) 0]) (v:= .pointer (ah (ad (c.P iC).blk ((c.P iC).off+lo*(c.P iC).sz+n.toNat*ti.ks.length)))) ⟨by omega, ?_⟩ (λm hm=>by simp[cM,bQ]at hm;subst hm;rw[hg];simp) (run ti _ _ _ _ ht hx c0 c1);rw[<-gf,show(c.P iC).off+(lo+n.toNat)*(c.P iC).sz+0=(c.P iC).off+lo*(c.P iC).sz+n.toNat*(c.P iC).sz by rw[dp];omega]
    ·exfalso;have OX:(c.P iC).n<=(c.P iC).cap:=by
      cases ob with
      |row e' ex ys=>obtain⟨_,_,_,_,_,j⟩:=lu cf hg;exact(j O4).1
      |fQ e' ys=>
       obtain⟨j1,j2,_⟩:=cf.obj iC _ hg;rw[e_ O4]at j1;by_cases hz:0<ys.length
       ·obtain⟨t3,U,L⟩:=j1.Jf hz;rw[j2];exact L.cap
       ·omega
      |_=>simp at h3
     omega
   cases ob with
   |row e' ex xs=>obtain⟨DO,h4⟩:=qH h3;have:=aU DO;subst this;obtain⟨i1,i2,ti,i3,i4,_⟩:=lu cf hg;exact main xs i1 ⟨ti,i3,i4⟩ h4
   |fQ e' xs=>obtain⟨DO,h4⟩:=qH h3;have:=aU DO;subst this;obtain⟨i1,i2,i3⟩:=mX cf hg;exact main xs i1 i3 h4
   |_=>simp at h3
  |inn iC i j=>
   obtain⟨ob,hg,h3⟩:=Rd.bind_some h3;have hg:=dA hg;cases ob with
   |row e' ex xs=>
    cases ex with
    |false=>simp at h3
    |true=>
     obtain⟨te,ht,h3⟩:=Rd.bind_some h3;have ht:=dW ht;split at h3
     ·rename_i e2 Aa;obtain⟨DO,h3⟩:=qH h3;obtain⟨rfl,rfl⟩:=bW h3;have:=aU DO;subst this;obtain rfl:=aJ h;obtain⟨⟨mA,hx⟩,hFv⟩:=ev;obtain⟨⟨tj,htj,gf,mK⟩,gd,_⟩:=cf.obj iC _ hg;obtain rfl:te=tj:=aJ (ht.symm.trans htj);obtain⟨zs,y',hy,hyj,uu,_,tk,GX,sO,KY,DS,oK⟩:=uD (c:=c) gd mK mA Aa;have hc:(decide (0<=n)&&decide (n<((jv (ar xs i j)).length:aw)))=true:=hc;rw[fE hy hyj]at hc;simp only[aL,bc]at hc;obtain⟨c0,c1⟩:=hc;have c1:n<(zs.length:aw):=c1;have O4:(c.G iC i j).nil=false:=by
       cases hq:(c.G iC i j).nil with
       |false=>rfl
       |true=>have:=(oK.nil hq).1;subst this;simp at c1;omega
      rw[e_ O4]at hx;refine gD cf dK hd (s:= .v ak [.ip iC i j n.toNat 0]) (v:= .pointer (ah (ad (c.G iC i j).blk ((c.G iC i j).off+n.toNat*tk.ks.length)))) ⟨⟨mA,by rw[oK.n];omega,by rw[KY];rfl⟩,hFv⟩ (λm hm=>by simp[cM,bQ]at hm;subst hm;rw[hg];simp) (run tk _ _ _ _ GX hx c0 (by rw[oK.n];exact c1))
     ·simp at h3
   |_=>simp at h3
  |_=>simp[SR]at h3
 |_=>simp at h
end
end Go.FG

namespace Go.FG
section
variable {P:c5} {E:fO} {σ:St} {a:Act} {w:bM} {c:e9} {o:fA} {nm:aF} {e:sR}
theorem Bl(dK:fC E σ a w c){x:az dz}{d n:aw}(h:(n_ x d).val σ=ah n):(x=aj/\n=d)\/∃y k,x=ah y/\a.eval y= .int k n:=by
 cases x with
 |none=>exact .inl ⟨rfl,(aJ h).symm⟩
 |some y=>obtain⟨⟨k,m⟩,h1,h2⟩:=Rd.bind_some h;obtain rfl:=aJ h2;exact .inr ⟨y,k,rfl,pW dK h1⟩
theorem E2{x:bk}{k:nq}{n:aw}{y:aF}{code:BoundsCode}(hx:x= .int k n)(h0:0<=n)(h1:n<=y):(qT x y code).run P w= .ok n.toNat w:=by subst hx;simp only[qT,asIntOf,ch,cT,bG,h0,h1,and_self,if_true]
theorem CP(dK:fC E σ a w c){isS:aW}{len cap:aF}{lo hi:az dz}{l h:aw}(hl:(n_ lo 0).val σ=ah l)(hh:(n_ hi len).val σ=ah h)(h0:0<=l)(h1:l<=h)(h2:h<=cap):
  (m7 isS len cap (lo.map a.eval) (hi.map a.eval) aj).run P w= .ok (l.toNat,h.toNat,cap) w:=by
 have low:∀v,lo=ah v->∀code,(qT (a.eval v) h.toNat code).run P w= .ok l.toNat w:=by
  intro v hv code;rcases Bl dK hl with ⟨hx,_⟩|⟨y,k,hx,hy⟩
  ·rw[hx]at hv;cases hv
  ·rw[hx]at hv;cases hv;exact E2 hy h0 (by omega)
 have high:∀v,hi=ah v->∀code,(qT (a.eval v) cap code).run P w= .ok h.toNat w:=by
  intro v hv code;rcases Bl dK hh with ⟨hx,_⟩|⟨y,k,hx,hy⟩
  ·rw[hx]at hv;cases hv
  ·rw[hx]at hv;cases hv;exact E2 hy (by omega) h2
 have l0:lo=aj->l=0:=λhx=>by rcases Bl dK hl with ⟨_,hn⟩|⟨y,k,hy,_⟩;exact hn;rw[hx]at hy;cases hy
 have V7:hi=aj->h=len:=λhx=>by rcases Bl dK hh with ⟨_,hn⟩|⟨y,k,hy,_⟩;exact hn;rw[hx]at hy;cases hy
 cases lo with
 |none=>
  obtain rfl:=l0 rfl;cases hi with
  |none=>obtain rfl:=V7 rfl;simp[m7]
  |some v=>simp[m7,high v rfl]
 |some u=>
  cases hi with
  |none=>obtain rfl:=V7 rfl;have:=low u rfl;simp only[dG]at this;simp[m7,this]
  |some v=>simp[m7,high v rfl,low u rfl]
theorem LB{t:aF}(hu:P.underlying t=ah .string)(dK:fC E σ a w c){lo hi:az dz}{l h:aw}{s:aq}(hl:(n_ lo 0).val σ=ah l)(hh:(n_ hi s.size).val σ=ah h)(h0:0<=l)(h1:l<=h)(h2:h<=(s.size:aw)):
  (qu t (.string s) (lo.map a.eval) (hi.map a.eval) aj).run P w= .ok (.string (s.extract l.toNat h.toNat)) w:=by simp only[qu,Instr.slice,ch,run_underlying hu,bG,Option.isSome_none,dv,if_false,CP (P:=P) dK hl hh h0 h1 h2,cT]
theorem kP{t el:aF}{te:TI}(hE:eB P E)(hu:P.underlying t=ah (.slice el))(he:E.ty el=ah te)(dK:fC E σ a w c){lo hi:az dz}{l h:aw}{A:az Addr}{n cp:aF}(hl:(n_ lo 0).val σ=ah l)(hh:(n_ hi n).val σ=ah h)(h0:0<=l)(h1:l<=h)(h2:h<=(cp:aw)):
  (qu t (.slice A n cp) (lo.map a.eval) (hi.map a.eval) aj).run P w= .ok (.slice (if cp=l.toNat then A else A.map (·.add (l.toNat*te.ks.length))) (h.toNat-l.toNat) (cp-l.toNat)) w:=by obtain⟨inf,mb,gf,_⟩:=hE.info el te he;simp only[qu,Instr.slice,ch,run_underlying hu,bG,CP (P:=P) dK hl hh h0 h1 h2,sizeOf,typeInfo,program,nr,mb,gf,cT]
theorem tY{xs:aQ}{lo hi i:aF}:(e8 xs lo hi)[i]? =if i<hi-lo then xs[lo+i]? else none:=by unfold e8;rw[d_];split<;>simp[dQ]
theorem mB{xs:aQ}{lo hi:aF}(h:hi<=xs.length):(e8 xs lo hi).length=hi-lo:=by unfold e8;simp;omega
theorem Cs{xs:aQ}{lo hi:aF}{y:aA CV}(h:y∈e8 xs lo hi):y∈xs:=kZ (k_ h)
theorem adB{K:aF->Prop}{v:bk}{el:aF}{xs:aQ}{te:TI}(he:E.ty el=ah te)(h:c_ E w K v (.l el xs)){lo hi:aF}(h1:lo<=hi)(h2:hi<=xs.length):
  ∃A n cp,v= .slice A n cp/\n=xs.length/\n<=cp\/∃A cp,v= .slice A 0 cp/\xs=[]:=by
 cases h with
 |nl=>exact⟨aj,0,0, .inr ⟨_,_,rfl,rfl⟩⟩
 |l _ _ b oo cp ti U ht hc=>exact⟨_,_,_, .inl ⟨rfl,rfl,hc⟩⟩
theorem EL{K:aF->Prop}{A:az Addr}{n cp el:aF}{xs:aQ}{te:TI}(he:E.ty el=ah te)(h:c_ E w K (.slice A n cp) (.l el xs)){lo hi:aF}(h1:lo<=hi)(h2:hi<=xs.length):
  n=xs.length/\c_ E w K (.slice (if cp=lo then A else A.map (·.add (lo*te.ks.length))) (hi-lo) (cp-lo)) (.l el (e8 xs lo hi)):=by
 generalize hv:Value.slice A n cp=v at h;generalize hx:CV.l el xs=x at h;cases h with
 |i=>cases hx
 |b=>cases hx
 |s=>cases hx
 |nl=>
  cases hx;cases hv;have:hi=0:=by simpa using h2
  subst this;have:lo=0:=by omega
  subst this;exact⟨rfl, .nl _ _ _⟩
 |l _ _ b oo cp ti U ht hc hm hK hs hcell gq=>
  cases hx;cases hv;refine⟨rfl, ?_⟩
  obtain rfl:te=ti:=aJ (he.symm.trans ht);by_cases hz:hi-lo=0
  ·rw[hz];have:e8 xs lo hi=[]:=by unfold e8;rw[hz];simp
   rw[this];exact .nl _ _ _
  ·rw[bH (by omega)];simp only[je,Addr.n7];have hl:=mB (xs:=xs) (lo:=lo) h2;rw[<-hl];refine .l el (e8 xs lo hi) b (oo+lo*te.ks.length) (cp-lo) te (λi j=>U (lo+i) j) ht (by rw[hl];omega) (by omega) hK (λy hy=>hs y (Cs hy)) (λi j y x mb hj=> ?_) (λi j y x mb hj=> ?_)
   ·rw[tY]at mb;split at mb
    ·have:=hcell (lo+i) j y x mb hj;rw[<-this];congr 2;rw[dp];omega
    ·cases mb
   ·rw[tY]at mb;split at mb
    ·exact gq (lo+i) j y x mb hj
    ·cases mb
theorem Uc(hE:eB P E)(cf:Ok E σ w c)(dK:fC E σ a w c)(hd:∀d,o.dst=ah d->d<a.tmps.size){x:dz}{t:aF}{lo hi mx:az dz}(ho:o.op= .slice t x lo hi mx)(h:(me E nm o).val σ=ah e)(hc:e.cond=ai):gT P E σ a w c o e.ws:=by
 simp only[me,ho]at h;cases mx with
 |some m=>simp at h
 |none=>
 obtain⟨kk,hk,h⟩:=Rd.bind_some h;obtain⟨v,h1,h⟩:=Rd.bind_some h;obtain⟨⟨b,q⟩,h3,h⟩:=Rd.bind_some h;obtain⟨ev,kv⟩:=iY dK h1;have exec:∀{u r:bk},a.eval x=u->(qu t u (lo.map a.eval) (hi.map a.eval) aj).run P w= .ok r w->(execOp a.eval o).run P w= .ok (.value r) w:=by intro u r hu hr;unfold execOp;rw[ho];exact iW (by rw[hu];exact hr)
 cases kk with
 |s=>cases v with
  |s s=>have hu:=ll hE hk;obtain⟨l,hl,h3⟩:=Rd.bind_some h3;obtain⟨hh,AM,h3⟩:=Rd.bind_some h3;obtain⟨rfl,rfl⟩:=bW (aJ h3);obtain rfl:=aJ h;have hc:g9 l hh s.size=true:=hc;simp only[g9,aL,bc]at hc;obtain⟨⟨c0,c1⟩,c2⟩:=hc;exact gD cf dK hd (s:= .v ak [.s _]) (v:= .string _) ⟨rfl,by have h5:=ev.2;unfold DX at h5⊢;rw[yt];omega⟩ (λn hn=>by simp[cM,bQ]at hn) (exec ev.1 (LB (P:=P) hu dK hl AM c0 c1 c2))
  |_=>simp[LH]at h3
 |l el=>
  have hu:=kL hE hk;obtain⟨te,KZ,h3⟩:=Rd.bind_some h3;have KZ:=dW KZ;cases v with
  |sh e' xs=>
   obtain⟨DO,h4⟩:=cR h3;have:=aU DO;subst this;obtain⟨l,hl,h4⟩:=Rd.bind_some h4;obtain⟨hh,AM,h4⟩:=Rd.bind_some h4;obtain⟨rfl,rfl⟩:=bW (aJ h4);obtain rfl:=aJ h;have hc:g9 l hh xs.length=true:=hc;simp only[g9,aL,bc]at hc;obtain⟨⟨c0,c1⟩,c2⟩:=hc;have ev:c_ E w c.K (a.eval x) (.l el xs):=ev;generalize hv:a.eval x=v at ev;cases ev with
   |nl _ A cp=>
    have h0:hh=0:=by simp at c2;omega
    have l0:l=0:=by omega
    subst h0;subst l0;have hr:=kP (P:=P) (te:=te) hE hu KZ dK (A:=A) (n:=0) (cp:=cp) hl AM (by omega) (by omega) (by omega);exact gD cf dK hd (s:= .v ak [.sh el (e8 [] (0:aw).toNat (0:aw).toNat)]) (.nl _ _ _) (λn hn=>by simp[cM,bQ]at hn) (exec hv hr)
   |l _ _ bb oo cp ti U ht OX hmx hK hs hcell gq=>have hr:=kP (P:=P) (te:=ti) hE hu ht dK (A:=ah (ad bb oo)) (cp:=cp) hl AM c0 c1 (by omega);have ara:=(EL (lo:=l.toNat) (hi:=hh.toNat) ht (.l el xs bb oo cp ti U ht OX hmx hK hs hcell gq) (by omega) (by omega)).2;exact gD cf dK hd (s:= .v ak [.sh el (e8 xs l.toNat hh.toNat)]) ara (λn hn=>by simp[cM,bQ]at hn) (exec hv hr)
  |own iC=>
   obtain⟨ob,hg,h3⟩:=Rd.bind_some h3;have hg:=dA hg
   have main:∀(xs:aQ),(c.P iC).n=xs.length->((c.P iC).nil=ai->xs=[])->(∃ti,E.ty el=ah ti/\(c.P iC).sz=ti.ks.length)->((c.P iC).nil=ak->(c.P iC).n<=(c.P iC).cap)->
     ((n_ lo 0).bind λl=>(n_ hi xs.length).bind λh=>Rd.ret (g9 l h xs.length,AV.vw iC l.toNat h.toNat)).val σ=ah (b,q)->gT P E σ a w c o e.ws:=by
    intro xs hn jz XB hcp h4
    obtain⟨l,hl,h4⟩:=Rd.bind_some h4
    obtain⟨hh,AM,h4⟩:=Rd.bind_some h4
    obtain⟨rfl,rfl⟩:=bW (aJ h4)
    obtain rfl:=aJ h
    have hc:g9 l hh xs.length=true:=hc
    simp only[g9,aL,bc]at hc
    obtain⟨⟨c0,c1⟩,c2⟩:=hc
    obtain⟨ti,ht,gf⟩:=XB
    have ev:a.eval x=lS (c.P iC):=ev
    cases hq:(c.P iC).nil with
    |true=>
     rw[nG hq]at ev;have hx:=jz hq;subst hx;have h0:hh=0:=by simp at c2;omega
     have l0:l=0:=by omega
     subst h0;subst l0;have hr:=kP (P:=P) (te:=ti) hE hu ht dK (A:=aj) (n:=0) (cp:=0) hl AM (by omega) (by omega) (by simp);refine gD cf dK hd (s:= .v ak [.vw iC 0 0]) (v:= .slice aj 0 0) ⟨cD _,bI _,λ_=>rfl,λhf=>by rw[hq]at hf;cases hf⟩ (λm hm=>by simp[cM,bQ]at hm;subst hm;rw[hg];simp) (exec ev (by simpa using hr))
    |false=>
     rw[e_ hq]at ev;have hcp:=hcp hq;have hr:=kP (P:=P) (te:=ti) hE hu ht dK (A:=ah (ad (c.P iC).blk (c.P iC).off)) (n:=(c.P iC).n) (cp:=(c.P iC).cap) hl (by rw[hn];exact AM) c0 c1 (by omega);refine gD cf dK hd (s:= .v ak [.vw iC l.toNat hh.toNat]) ⟨by omega,by omega,λhf=>(by rw[hq]at hf;cases hf),λ_=> ?_⟩ (λm hm=>by simp[cM,bQ]at hm;subst hm;rw[hg];simp) (exec ev hr);by_cases hle:(c.P iC).cap=l.toNat
     ·refine .inr ⟨hle.symm,(c.P iC).off,by omega, ?_⟩;rw[bz hle,show hh.toNat-l.toNat=0 by omega,show(c.P iC).cap-l.toNat=0 by omega]
     ·refine .inl ⟨by omega, ?_⟩;rw[bH hle];simp only[je,Addr.n7,gf]
   cases ob with
   |row e' ex xs=>obtain⟨DO,h4⟩:=cR h3;have:=aU DO;subst this;obtain⟨i1,i2,ti,i3,i4,i5⟩:=lu cf hg;exact main xs i1 i2 ⟨ti,i3,i4⟩ (λh=>(i5 h).1) h4
   |fQ e' xs=>
    obtain⟨DO,h4⟩:=cR h3;have:=aU DO;subst this;obtain⟨i1,i2,i3⟩:=mX cf hg;refine main xs i1 i2 i3 (λO4=> ?_) h4;obtain⟨j1,j2,_⟩:=cf.obj iC _ hg;rw[e_ O4]at j1;by_cases hz:0<xs.length
    ·obtain⟨t3,U,L⟩:=j1.Jf hz;rw[j2];exact L.cap
    ·omega
   |_=>simp at h3
  |vw iC DW vg=>
   obtain⟨ob,hg,h3⟩:=Rd.bind_some h3;have hg:=dA hg
   have main:(∃ti,E.ty el=ah ti/\(c.P iC).sz=ti.ks.length)->((c.P iC).nil=ai->(c.P iC).n=0)->((c.P iC).nil=ak->(c.P iC).n<=(c.P iC).cap)->
     ((n_ lo 0).bind λl=>(n_ hi ((vg-DW:aF):aw)).bind λh=>Rd.ret (g9 l h ((vg-DW:aF):aw),AV.vw iC (DW+l.toNat) (DW+h.toNat))).val σ=ah (b,q)->gT P E σ a w c o e.ws:=by
    intro XB jz hcp h4
    obtain⟨l,hl,h4⟩:=Rd.bind_some h4
    obtain⟨hh,AM,h4⟩:=Rd.bind_some h4
    obtain⟨rfl,rfl⟩:=bW (aJ h4)
    obtain rfl:=aJ h
    have hc:g9 l hh ((vg-DW:aF):aw)=true:=hc
    simp only[g9,aL,bc]at hc
    obtain⟨⟨c0,c1⟩,c2⟩:=hc
    obtain⟨ti,ht,gf⟩:=XB
    obtain rfl:te=ti:=aJ (KZ.symm.trans ht)
    obtain⟨v1,v2,v3,v4⟩:=ev
    cases hq:(c.P iC).nil with
    |true=>
     have hz:=jz hq;have ex:=v3 hq;have hi0:vg=0:=by omega
     have lo0:DW=0:=by omega
     subst hi0;subst lo0;have h0:hh=0:=by simp at c2;omega
     have l0:l=0:=by omega
     subst h0;subst l0;have hr:=kP (P:=P) (te:=te) hE hu ht dK (A:=aj) (n:=0) (cp:=0) hl (by simpa using AM) (by omega) (by omega) (by simp);refine gD cf dK hd (s:= .v ak [.vw iC (0+(0:aw).toNat) (0+(0:aw).toNat)]) (v:= .slice aj 0 0) ⟨cD _,bI _,λ_=>rfl,λhf=>by rw[hq]at hf;cases hf⟩ (λm hm=>by simp[cM,bQ]at hm;subst hm;rw[hg];simp) (exec ex (by simpa using hr))
    |false=>
     have hcp:=hcp hq;rcases v4 hq with ⟨u1,ex⟩|⟨u1,oo,u2,ex⟩
     ·have hr:=kP (P:=P) (te:=te) hE hu ht dK (A:=ah (ad (c.P iC).blk ((c.P iC).off+DW*(c.P iC).sz))) (n:=vg-DW) (cp:=(c.P iC).cap-DW) hl AM c0 c1 (by omega);refine gD cf dK hd (s:= .v ak [.vw iC (DW+l.toNat) (DW+hh.toNat)]) ⟨by omega,by omega,λhf=>(by rw[hq]at hf;cases hf),λ_=> ?_⟩ (λm hm=>by simp[cM,bQ]at hm;subst hm;rw[hg];simp) (exec ex hr);by_cases hle:(c.P iC).cap-DW=l.toNat
      ·refine .inr ⟨by omega,(c.P iC).off+DW*(c.P iC).sz, ?_, ?_⟩
       ·have:=b8 (c.P iC).sz (Nat.le_of_lt u1);omega
       ·rw[bz hle,show hh.toNat-l.toNat=0 by omega,show(c.P iC).cap-DW-l.toNat=0 by omega]
      ·refine .inl ⟨by omega, ?_⟩;rw[bH hle];simp only[je,Addr.n7,gf];rw[show DW+hh.toNat-(DW+l.toNat)=hh.toNat-l.toNat by omega,show(c.P iC).cap-(DW+l.toNat)=(c.P iC).cap-DW-l.toNat by omega,dp,lZ]
     ·have hr:=kP (P:=P) (te:=te) hE hu ht dK (A:=ah (ad (c.P iC).blk oo)) (n:=0) (cp:=0) hl (by rw[show vg-DW=0 by omega]at AM;exact AM) c0 c1 (by omega);have h0:hh=0:=by omega
      have l0:l=0:=by omega
      subst h0;subst l0;refine gD cf dK hd (s:= .v ak [.vw iC (DW+(0:aw).toNat) (DW+(0:aw).toNat)]) (v:= .slice (ah (ad (c.P iC).blk oo)) 0 0) ⟨cD _,by simp;omega,λhf=>(by rw[hq]at hf;cases hf),λ_=> .inr ⟨by simpa using u1,oo,u2,rfl⟩⟩ (λm hm=>by simp[cM,bQ]at hm;subst hm;rw[hg];simp) (exec ex (by simpa using hr))
   cases ob with
   |row e' ex xs=>obtain⟨DO,h4⟩:=cR h3;have:=aU DO;subst this;obtain⟨i1,i2,ti,i3,i4,i5⟩:=lu cf hg;exact main ⟨ti,i3,i4⟩ (λhn=>by rw[i1,i2 hn];rfl) (λh=>(i5 h).1) h4
   |fQ e' xs=>
    obtain⟨DO,h4⟩:=cR h3;have:=aU DO;subst this;obtain⟨i1,i2,i3⟩:=mX cf hg;refine main i3 (λhn=>by rw[i1,i2 hn];rfl) (λO4=> ?_) h4;obtain⟨j1,j2,_⟩:=cf.obj iC _ hg;rw[e_ O4]at j1;by_cases hz:0<xs.length
    ·obtain⟨t3,U,L⟩:=j1.Jf hz;rw[j2];exact L.cap
    ·omega
   |_=>simp at h3
  |nl=>
   obtain⟨l,hl,h4⟩:=Rd.bind_some h3;obtain⟨hh,AM,h4⟩:=Rd.bind_some h4;obtain⟨rfl,rfl⟩:=bW (aJ h4);obtain rfl:=aJ h;have hc:g9 l hh 0=true:=hc;simp only[g9,aL,bc]at hc;obtain⟨⟨c0,c1⟩,c2⟩:=hc;have h0:hh=0:=by omega
   have l0:l=0:=by omega
   subst h0;subst l0;have hr:=kP (P:=P) (te:=te) hE hu KZ dK (A:=aj) (n:=0) (cp:=0) hl AM (by omega) (by omega) (by simp);exact gD cf dK hd (s:= .v ak [.nl]) (v:= .slice aj 0 0) rfl (λn hn=>by simp[cM,bQ]at hn) (exec ev (by simpa using hr))
  |_=>simp[UK]at h3
 |_=>simp[LH]at h3
end
end Go.FG

namespace Go.FG
section
variable {P:c5} {E:fO} {σ:St} {a:Act} {w:bM} {c:e9} {o:fA} {nm:aF} {e:sR}
theorem PH(cf:Ok E σ w c){x:AV}{v:bk}(hx:eG E w c x v){el:aF}{xs:aQ}(h:(mE E x).val σ=ah (el,xs)):∃A cp,v= .slice A xs.length cp:=by
 cases x with
 |sh e' ys=>
  obtain⟨rfl,rfl⟩:=bW (aJ h);have hx:c_ E w c.K v (.l e' ys):=hx;cases hx with
  |nl=>exact⟨_,_,rfl⟩
  |l=>exact⟨_,_,rfl⟩
 |own n=>
  obtain⟨ob,hg,h⟩:=Rd.bind_some h;have hg:=dA hg;have hx:v=lS (c.P n):=hx;have main:∀ys:aQ,(c.P n).n=ys.length->((c.P n).nil=ai->ys=[])->∃A cp,v= .slice A ys.length cp:=by
   intro ys h1 h2;cases hq:(c.P n).nil with
   |true=>rw[hx,nG hq,h2 hq];exact⟨_,_,rfl⟩
   |false=>rw[hx,e_ hq,h1];exact⟨_,_,rfl⟩
  cases ob with
  |row e' ex ys=>obtain⟨rfl,rfl⟩:=bW (aJ h);obtain⟨i1,i2,_⟩:=lu cf hg;exact main _ i1 i2
  |fQ e' ys=>obtain⟨rfl,rfl⟩:=bW (aJ h);obtain⟨i1,i2,_⟩:=mX cf hg;exact main _ i1 i2
  |_=>simp at h
 |vw n lo hi=>
  obtain⟨ob,hg,h⟩:=Rd.bind_some h;have hg:=dA hg;obtain⟨v1,v2,v3,v4⟩:=hx;have main:∀ys:aQ,(c.P n).n=ys.length->((c.P n).nil=ai->ys=[])->((c.P n).nil=ak->(c.P n).n<=(c.P n).cap)->∃A cp,v= .slice A (e8 ys lo hi).length cp:=by
   intro ys h1 h2 h3;rw[mB (by omega)];cases hq:(c.P n).nil with
   |true=>have:=h2 hq;subst this;rw[v3 hq,show hi-lo=0 by simp at h1;omega];exact⟨_,_,rfl⟩
   |false=>
    rcases v4 hq with ⟨_,h⟩|⟨u1,oo,_,h⟩
    ·rw[h];exact⟨_,_,rfl⟩
    ·have:=h3 hq;rw[h,show hi-lo=0 by omega];exact⟨_,_,rfl⟩
  cases ob with
  |row e' ex ys=>obtain⟨rfl,rfl⟩:=bW (aJ h);obtain⟨i1,i2,ti,_,_,i5⟩:=lu cf hg;exact main _ i1 i2 (λh=>(i5 h).1)
  |fQ e' ys=>
   obtain⟨rfl,rfl⟩:=bW (aJ h);obtain⟨i1,i2,_⟩:=mX cf hg;refine main _ i1 i2 (λO4=> ?_);obtain⟨j1,j2,_⟩:=cf.obj n _ hg;rw[e_ O4]at j1;by_cases hz:0<ys.length
   ·obtain⟨t3,U,L⟩:=j1.Jf hz;rw[j2];exact L.cap
   ·omega
  |_=>simp at h
 |inn n i j=>
  obtain⟨ob,hg,h⟩:=Rd.bind_some h;have hg:=dA hg;cases ob with
  |row e' ex ys=>
   cases ex with
   |false=>simp at h
   |true=>
   obtain⟨te,ht,h⟩:=Rd.bind_some h;have ht:=dW ht;split at h
   ·rename_i e2 Aa;obtain⟨rfl,rfl⟩:=bW (aJ h);obtain⟨⟨mA,hx⟩,_⟩:=hx;obtain⟨⟨tj,htj,gf,mK⟩,gd,_⟩:=cf.obj n _ hg;obtain rfl:te=tj:=aJ (ht.symm.trans htj);obtain⟨zs,y',hy,hyj,uu,_,tk,GX,sO,KY,DS,oK⟩:=uD (c:=c) gd mK mA Aa;rw[fE hy hyj];cases hq:(c.G n i j).nil with
    |true=>rw[hx,nG hq,show jv (.l e2 zs)=zs from rfl,(oK.nil hq).1];exact⟨_,_,rfl⟩
    |false=>rw[hx,e_ hq,oK.n];exact⟨_,_,rfl⟩
   ·simp at h
  |_=>simp at h
 |_=>simp[mE]at h
theorem mS{cl:Call}{b:Builtin}(ho:o.op= .call cl)(hb:cl.callee= .builtin b):
  ∃cs,(execOp a.eval o).run P w=(builtin b cl.argTypes o.type cs (cl.args.map a.eval)).run P w:=by unfold execOp;rw[ho];simp only[resolve,hb,ch,cT,bG,invoke];exact⟨_,rfl⟩
theorem nD{α:Type}{x:dt α}{y:α}(h:x.toList=[y]):x= #[y]:=by apply sr;simpa using h
theorem C4{α:Type}{x:dt α}{y z:α}(h:x.toList=[y,z]):x= #[y,z]:=by apply sr;simpa using h
theorem afH(hE:eB P E)(cf:Ok E σ w c)(dK:fC E σ a w c)(hd:∀d,o.dst=ah d->d<a.tmps.size){cl:Call}(ho:o.op= .call cl)(hb:cl.callee= .builtin .len)(h:(me E nm o).val σ=ah e):gT P E σ a w c o e.ws:=by
 simp only[me,ho,hb]at h;split at h
 ·rename_i x t hx ht;obtain⟨k,hk,h⟩:=Rd.bind_some h;obtain⟨v,h1,h⟩:=Rd.bind_some h;obtain⟨n,h2,h⟩:=Rd.bind_some h;obtain⟨ev,kv⟩:=iY dK h1;have hx:=nD hx;have ht:=nD ht;have exec:∀r,(wj #[t] o.type #[a.eval x]).run P w= .ok r w->(execOp a.eval o).run P w= .ok (.value r) w:=by intro r hr;obtain⟨cs,HO⟩:=mS (P:=P) (a:=a) (w:=w) ho hb;rw[HO,hx,ht];simp only[builtin,Du,fB,BI];exact iW hr
  have fin:∀m:aF,n=m->(wj #[t] o.type #[a.eval x]).run P w= .ok (goInt m) w->gT P E σ a w c o e.ws:=by intro m hm hr;subst hm;exact fW cf dK hd h (v:=goInt m) rfl (λn hn=>by simp[cM,bQ]at hn) (exec _ hr)
  cases k with
  |s=>cases v with
   |s s=>obtain rfl:=aJ h2;have ev:a.eval x= .string s:=ev.1;exact fin s.size rfl (by rw[ev];simp[wj,run_underlying (ll hE hk)])
   |_=>simp[afc]at h2
  |l el=>
   have hu:=kL hE hk;have sl:∀A (m:aF) cp,a.eval x= .slice A m cp->n=m->gT P E σ a w c o e.ws:=by intro A m cp hv hn;exact fin m hn (by rw[hv];simp[wj,run_underlying hu])
   have gen:∀(el':aF) (xs:aQ),(mE E v).val σ=ah (el',xs)->n=xs.length->gT P E σ a w c o e.ws:=by intro el' xs hr hn;obtain⟨A,cp,hv⟩:=PH cf ev hr;exact sl _ _ _ hv hn
   cases v with
   |nl=>obtain rfl:=aJ h2;exact sl aj 0 0 ev rfl
   |vw m lo hi=>
    obtain⟨ob,hg,h2⟩:=Rd.bind_some h2;have hg:=dA hg;have r1:∃(e1:aF) (ys:aQ),(mE E (.vw m lo hi)).val σ=ah (e1,e8 ys lo hi)/\(c.P m).n=ys.length/\n=((hi-lo:aF):aw):=by
     cases ob with
     |row e1 ex ys=>exact⟨e1,ys,by simp[mE,jL,hg],(lu cf hg).1,(aJ h2).symm⟩
     |fQ e1 ys=>exact⟨e1,ys,by simp[mE,jL,hg],(mX cf hg).1,(aJ h2).symm⟩
     |_=>simp at h2
    obtain⟨e1,ys,h5,h6,h7⟩:=r1;refine gen e1 _ h5 ?_;rw[mB (by have:=ev.2.1;omega)];exact h7
   |_=>obtain⟨⟨el',xs⟩,hr,h3⟩:=Rd.bind_some h2;obtain rfl:=aJ h3;exact gen el' xs hr rfl
  |_=>simp[afc]at h2
 ·simp at h
end
end Go.FG

namespace Go.FG
section
variable {P:c5} {E:fO} {σ:St} {a:Act} {w:bM} {c:e9} {o:fA} {nm:aF} {e:sR}
theorem zE{α:Type}{x:az α}{σ:St}{r:α}(h:(Ue x).val σ=ah r):x=ah r:=by
 cases x with
 |none=>simp[Ue]at h
 |some y=>exact h
theorem afG(hE:eB P E)(cf:Ok E σ w c)(dK:fC E σ a w c)(hd:∀d,o.dst=ah d->d<a.tmps.size){cl:Call}(ho:o.op= .call cl)(hb:cl.callee= .builtin .cap)(h:(me E nm o).val σ=ah e):gT P E σ a w c o e.ws:=by
 simp only[me,ho,hb]at h;split at h
 ·rename_i x t hx ht;obtain⟨k,hk,h⟩:=Rd.bind_some h;have hx:=nD hx;have ht:=nD ht;cases k with
  |l el=>
   obtain⟨v,h1,h⟩:=Rd.bind_some h;obtain⟨ev,kv⟩:=iY dK h1;have hu:=kL hE hk;cases v with
   |nl=>refine fW cf dK hd h (v:=goInt 0) rfl (λn hn=>by simp[cM,bQ]at hn) ?_;obtain⟨cs,HO⟩:=mS (P:=P) (a:=a) (w:=w) ho hb;rw[HO,hx,ht];simp only[builtin,Du,fB,BI];refine iW ?_;rw[show a.eval x= .slice aj 0 0 from ev];simp[Builtin.cap_,run_underlying hu]
   |_=>simp at h
  |_=>simp at h
 ·simp at h
theorem Lb(dK:fC E σ a w c)(mx:aW):∀(r:aA dz) (k:nq) (n:aw) (v:AV),(xG mx r k n).val σ=ah v->
  ∃m,v= .i k m/\((r.map a.eval).foldlM (if mx then Eb else Ec) (.int k n)).run P w= .ok (.int k m) w:=by
 intro r;induction r with
 |nil=>intro k n v h;obtain rfl:=aJ h;exact⟨n,rfl,rfl⟩
 |cons x r ih=>
  intro k n v h;obtain⟨⟨k2,m⟩,h1,h2⟩:=Rd.bind_some h;have hx:=pW dK h1;obtain⟨q,hq,hr⟩:=ih k (im mx n m) v h2;refine⟨q,hq, ?_⟩
  simp only[fB,List.foldlM_cons,ch,hx];cases mx with
  |true=>
   have:(Eb (.int k n) (.int k2 m)).run P w= .ok (.int k (im ai n m)) w:=by simp[Eb,im]
   simp only[if_true,this,bG]at hr⊢;exact hr
  |false=>
   have:(Ec (.int k n) (.int k2 m)).run P w= .ok (.int k (im ak n m)) w:=by simp[Ec,im]
   simp only[dv,if_false,this,bG]at hr⊢;exact hr
theorem EW(mx:aW)(cf:Ok E σ w c)(dK:fC E σ a w c)(hd:∀d,o.dst=ah d->d<a.tmps.size){cl:Call}(ho:o.op= .call cl)(hb:cl.callee= .builtin (if mx then .max else .min))(h:(me E nm o).val σ=ah e):gT P E σ a w c o e.ws:=by
 have main:∀x r,cl.args.toList=x::r->((CA x).bind λ(k,n)=>(xG mx r k n).bind λv=>zP o v).val σ=ah e->gT P E σ a w c o e.ws:=by
  intro x r hx h;obtain⟨⟨k,n⟩,h1,h⟩:=Rd.bind_some h;obtain⟨v,h2,h⟩:=Rd.bind_some h;have ex:=pW dK h1;obtain⟨m,rfl,hr⟩:=Lb (P:=P) dK mx r k n v h2;refine fW cf dK hd h (v:= .int k m) rfl (λn hn=>by simp[cM,bQ]at hn) ?_;obtain⟨cs,HO⟩:=mS (P:=P) (a:=a) (w:=w) ho hb;have se:cl.args.map a.eval=((x::r).map a.eval).toArray:=by rw[<-hx];apply sr;simp
  rw[HO,se];cases mx with
  |true=>simp only[if_true,builtin];refine iW ?_;simp only[Builtin.max_,fB,ex];exact hr
  |false=>simp only[dv,if_false,builtin];refine iW ?_;simp only[Builtin.min_,fB,ex];exact hr
 cases mx with
 |true=>
  simp only[me,ho,hb,if_true]at h;split at h
  ·rename_i x r hx;exact main x r hx h
  ·simp at h
 |false=>
  simp only[me,ho,hb,dv,if_false]at h;split at h
  ·rename_i x r hx;exact main x r hx h
  ·simp at h
theorem UE{op:BinOp}{t:aF}{k:nq}{m n:aw}{b:aW}{v:AV}(hs:O9 op=ak)(h:ad8 op k m n=ah (b,v))(hb:b=ai):
  ∃u,eG E w c v u/\bQ v=[]/\(binOp op t (.int k m) (.int k n)).run P w= .ok u w:=by
 subst hb;cases op<;>simp only[ad8,jA,jf,true_and,reduceCtorEq]at h<;>first|(simp[O9]at hs;done)|skip
 case quo=>
  obtain⟨h1,rfl⟩:=h;have hn:¬n=0:=by simpa using h1
  exact⟨_,rfl,rfl,by simp[binOp,Op.intDiv,hn]⟩
 case rem=>
  obtain⟨h1,rfl⟩:=h;have hn:¬n=0:=by simpa using h1
  exact⟨_,rfl,rfl,by simp[binOp,Op.intDiv,hn]⟩
 all_goals (subst h;exact⟨_,rfl,rfl,by simp[binOp,Op.intArith,Op.intBits,Op.intCmp]⟩)
theorem UF{op:BinOp}{t:aF}{m n:aq}{b:aW}{v:AV}(hs:O9 op=ak)(h:ad_ op m n=ah (b,v))(hb:b=ai):
  ∃u,eG E w c v u/\bQ v=[]/\(binOp op t (.string m) (.string n)).run P w= .ok u w:=by
 subst hb;cases op<;>simp only[ad_,jA,jf,true_and,reduceCtorEq]at h<;>first|(simp[O9]at hs;done)|skip
 case add=>
  obtain⟨h1,rfl⟩:=h;have h1:=cm h1;refine⟨_,⟨rfl,by unfold DX;rw[dJ];omega⟩,rfl, ?_⟩
  have:¬(((m.size+n.size:aF):aw)>ao.max):=by
   have:ao.max=9223372036854775807:=by decide
   omega
  simp only[binOp,Op.stringOp,bH this,cT]
 all_goals (subst h;exact⟨_,rfl,rfl,by simp[binOp,Op.stringOp]⟩)
theorem xQ{op:BinOp}{t:aF}{x y:dz}{u v:bk}(hu:∀xs,u≠ .agg xs)(hn:u≠ .nilIface):(eqGuard op t x y u v).run P w= .ok () w:=by unfold eqGuard;cases op<;>cases u<;>first|rfl|(exact cJ rfl (hu _))|(exact cJ rfl hn)|(cases v<;>rfl)
theorem xP{P:c5}(w:bM){t:aF}(h:P.underlying t=ah .bool)(m n:aW):(binOp .eql t (.bool m) (.bool n)).run P w= .ok (.bool (m==n)) w/\(binOp .neq t (.bool m) (.bool n)).run P w= .ok (.bool !(m==n)) w:=by
 have h1:(Op.equal t (.bool m) (.bool n)).run P w= .ok (m==n) w:=by show(Op.equalIn (9999+1) t (.bool m) (.bool n)).run P w=_;exact run_equalIn_bool w 9999 t m n h
 simp only[binOp,ch,h1,bG,cT];exact⟨trivial,trivial⟩
theorem CK{xs:aA AV}{ks:aA Ck}(hk:xs.map GZ=ks)(hp:plain ks=ai){vals:dt bk}(hs:vals.size=xs.length)(hv:∀(j:aF) (a:AV),xs[j]? =ah a->∃u:bk,vals[j]? =ah u/\eG E w c a u):vals=(xs.map lX).toArray:=by
 apply sr;apply VU;intro j;simp only[cX,bL];cases hx:xs[j]? with
 |none=>have:=List.getElem?_eq_none_iff.1 hx;simp;omega
 |some a=>
  obtain⟨u,hu,ha⟩:=hv j a hx;rw[hu];have hm:GZ a∈ks:=by rw[<-hk];exact cU.2 ⟨a,aR hx,rfl⟩
  have mI:=bn.1 hp _ hm;cases a<;>simp[GZ]at mI<;>first|(have h1:u=_:=ha;rw[h1];rfl)|(have h1:u=_:=ha.1;rw[h1];rfl)
theorem W0(hE:eB P E){op:BinOp}{t:aF}{x y:dz}{sx sy:SV}{ux uy:bk}(ex:ji E w c sx ux)(ey:ji E w c sy uy){b:aW}{v:AV}(h3:(ad9 E t op sx sy).val σ=ah (b,v))(hc:b=ai):
  ∃u,eG E w c v u/\bQ v=[]/\(do eqGuard op t x y ux uy;binOp op t ux uy).run P w= .ok u w:=by
 have fin:∀u,eG E w c v u->bQ v=[]->(do eqGuard op t x y ux uy;binOp op t ux uy).run P w= .ok u w->∃u,eG E w c v u/\bQ v=[]/\(do eqGuard op t x y ux uy;binOp op t ux uy).run P w= .ok u w:=
  λu hu hn hr=>⟨u,hu,hn,hr⟩
 have pl:∀u1 u2 r,ux=u1->uy=u2->(∀xs,u1≠ .agg xs)->u1≠ .nilIface->(binOp op t u1 u2).run P w= .ok r w->(do eqGuard op t x y ux uy;binOp op t ux uy).run P w= .ok r w:=by intro u1 u2 r h1 h2 h3 h4 h5;rw[h1,h2];simp only[ch,xQ (P:=P) (w:=w) (op:=op) (t:=t) (x:=x) (y:=y) (v:=u2) h3 h4,bG,h5]
 unfold ad9 at h3;split at h3
 ·rename_i p q;have ex:eG E w c p ux:=ex;have ey:eG E w c q uy:=ey;cases mK:O9 op with
  |true=>
   rw[mK]at h3;replace h3:=zE h3;cases p<;>cases q<;>first|(simp[shV]at h3;done)|skip
   cases op<;>simp only[shV,jA,jf,reduceCtorEq]at h3<;>(obtain⟨rfl,rfl⟩:=h3)
   ·refine fin _ rfl rfl (pl _ _ _ ex ey (by simp) (by simp) ?_);have:¬(_:aw)<0:=Int.not_lt.2 (cm hc);simp[binOp,Op.shift,this]
   ·refine fin _ rfl rfl (pl _ _ _ ex ey (by simp) (by simp) ?_);have:¬(_:aw)<0:=Int.not_lt.2 (cm hc);simp[binOp,Op.shift,this]
  |false=>
   rw[mK]at h3;obtain⟨k,hk,h3⟩:=Rd.bind_some h3;replace h3:=zE h3;cases p with
   |i k1 m=>
    cases q with
    |i k2 n=>
     have h9:=h3;simp only[Ko]at h9;split at h9
     ·rename_i SC;subst SC;obtain⟨u,hu,hn,hr⟩:=UE (P:=P) (t:=t) (E:=E) (c:=c) (w:=w) mK h9 hc;exact fin u hu hn (pl _ _ _ ex ey (by simp) (by simp) hr)
     ·cases h9
    |_=>simp[Ko]at h3
   |s m=>
    cases q with
    |s n=>obtain⟨u,hu,hn,hr⟩:=UF (P:=P) (t:=t) (E:=E) (c:=c) (w:=w) mK h3 hc;exact fin u hu hn (pl _ _ _ ex.1 ey.1 (by simp) (by simp) hr)
    |_=>simp[Ko]at h3
   |b m=>
    cases q with
    |b n=>
     have aat:k= .b->P.underlying t=ah .bool:=by rintro rfl;obtain⟨ti,q1,q2,q3⟩:=rM hk;obtain⟨d,hd',_,hn⟩:=hE.desc t ti q1;rcases hn q2 with ⟨k,h,_⟩|⟨h,rfl⟩|⟨h,_⟩|⟨e',h,_⟩|⟨h,_⟩<;>rw[q3]at h<;>simp_all
     cases op<;>cases k<;>simp only[Ko,jA,jf,reduceCtorEq]at h3<;>(obtain⟨rfl,rfl⟩:=h3)
     ·refine fin _ rfl rfl (pl _ _ _ ex ey (by simp) (by simp) ?_);exact(xP (P:=P) w (aat rfl) _ _).1
     ·refine fin _ rfl rfl (pl _ _ _ ex ey (by simp) (by simp) ?_);exact(xP (P:=P) w (aat rfl) _ _).2
    |_=>simp[Ko]at h3
   |_=>simp[Ko]at h3
 ·rename_i xs ys;obtain⟨ti,ht,h3⟩:=Rd.bind_some h3;have ht:=dW ht;obtain⟨h4,h3⟩:=cR h3;simp only[aL]at h4;obtain⟨⟨⟨⟨h5,h6⟩,h7⟩,h8⟩,h9⟩:=h4;have h7:=rK h7;have h8:=rK h8;replace h3:=zE h3;obtain⟨X,hX,sX,vX⟩:=ex;obtain⟨Y,hY,sY,vY⟩:=ey;have eX:=CK h7 h9 sX vX;have eY:=CK h8 h9 sY vY;cases hq:Xb xs ys with
  |none=>rw[hq]at h3;cases h3
  |some r=>
   rw[hq]at h3;obtain⟨r1,r2⟩:=hE.eq t ti h6 ht w x y xs ys r hq h7 h8;cases op<;>first|(simp[isEq]at h5;done)|skip
   ·obtain⟨_,rfl⟩:=bW (aJ h3);exact fin _ rfl rfl (by rw[hX,hY,eX,eY];exact r1)
   ·obtain⟨_,rfl⟩:=bW (aJ h3);exact fin _ rfl rfl (by rw[hX,hY,eX,eY];exact r2)
 ·simp at h3
theorem T8(hE:eB P E)(cf:Ok E σ w c)(dK:fC E σ a w c)(hd:∀d,o.dst=ah d->d<a.tmps.size){op:BinOp}{t ty:aF}{x y:dz}(ho:o.op= .binOp op t x y ty)(h:(me E nm o).val σ=ah e)(hc:e.cond=ai):gT P E σ a w c o e.ws:=by simp only[me,ho]at h;obtain⟨sx,h1,h⟩:=Rd.bind_some h;obtain⟨sy,h2,h⟩:=Rd.bind_some h;obtain⟨⟨b,v⟩,h3,h⟩:=Rd.bind_some h;obtain rfl:=aJ h;obtain⟨u,hu,hn,hr⟩:=W0 (P:=P) (x:=x) (y:=y) hE (mr dK h1).1 (mr dK h2).1 h3 hc;refine gD cf dK hd (s:= .v ak [v]) hu (λn kJ=>by simp[cM,hn]at kJ) ?_;unfold execOp;rw[ho];exact iW hr
end
end Go.FG

namespace Go.FG
theorem LU{p:Pl}(hn:p.nil=ak->p.n<=p.cap)(hz:p.nil=ai->p.n=0):wO p 0 p.n (lS p):=by
 refine⟨bI _,cD _,λh=>nG h,λh=> ?_⟩
 rw[e_ h];by_cases hc:p.cap=0
 ·refine .inr ⟨hc.symm,p.off,Nat.le_add_right _ _, ?_⟩;have:=hn h;rw[hc,show p.n=0 by omega]
 ·refine .inl ⟨by omega, ?_⟩;simp
theorem qS(xs:aQ):e8 xs 0 xs.length=xs:=by unfold e8;simp
def oj(w:bM)(v:bk)(xs:aQ)(sz:aF)(R:aF->aF->bk->CV->Prop):Prop:=
 ∃A cp,v= .slice A xs.length cp/\(xs≠[]->∃b o,A=ah (ad b o)/\∀(i:aF) (y:aA CV) (j:aF) (x:CV),xs[i]? =ah y->y[j]? =ah x->∃u:bk,w.cell? (ad b (o+i*sz+j))=ah u/\R i j u x)
theorem oj.imp{w:bM}{v:bk}{xs:aQ}{sz:aF}{R R':aF->aF->bk->CV->Prop}(h:oj w v xs sz R)(hR:∀(i:aF) (y:aA CV) (j:aF) (x:CV) (u:bk),xs[i]? =ah y->y[j]? =ah x->R i j u x->R' i j u x):oj w v xs sz R':=by
 obtain⟨A,cp,h1,h2⟩:=h;refine⟨A,cp,h1,λiw=> ?_⟩
 obtain⟨b,o,h3,h4⟩:=h2 iw;refine⟨b,o,h3,λi y j x hi hj=> ?_⟩
 obtain⟨u,hu,hr⟩:=h4 i y j x hi hj;exact⟨u,hu,hR i y j x u hi hj hr⟩
theorem LN{w:bM}{p:Pl}{xs:aQ}{R:aF->aF->bk->CV->Prop}{lo hi:aF}{v:bk}(h:jh w p xs R)(hv:wO p lo hi v):oj w v (e8 xs lo hi) p.sz (λi j u x=>R (lo+i) j u x):=by
 obtain⟨v1,v2,v3,v4⟩:=hv;have hl:=mB (xs:=xs) (lo:=lo) (hi:=hi) (by rw[<-h.n];exact v2);cases hq:p.nil with
 |true=>
  have hx:=(h.nil hq).1;have h0:=h.n;rw[hx]at h0;refine⟨aj,0, ?_,λiw=>cJ (by rw[hx];unfold e8;simp) iw⟩
  rw[v3 hq,hl];have:p.n=0:=h0;congr 1;omega
 |false=>
  obtain⟨vals,hb,SE,Xn,mH,hc⟩:=h.mem hq;rcases v4 hq with ⟨u1,rfl⟩|⟨u1,oo,u2,rfl⟩
  ·refine⟨_,_,by rw[hl],λiw=>⟨_,_,rfl,λi y j x mb hj=> ?_⟩⟩
   rw[tY]at mb;split at mb
   ·obtain⟨u,hu,hr⟩:=hc (lo+i) y j x mb hj;refine⟨u, ?_,hr⟩
    rw[hb.cell,<-hu];congr 1;rw[dp];omega
   ·cases mb
  ·have h0:hi-lo=0:=by omega
   refine⟨_,_,by rw[hl,h0],λiw=>cJ (gb (hl.trans h0)) iw⟩
theorem I6{E:fO}{w:bM}{K:aF->Prop}{p:Pl}{e:aF}{te:TI}{xs:aQ}(he:E.ty e=ah te)(h:c_ E w K (lS p) (.l e xs))(hn:p.n=xs.length)(hs:p.sz=te.ks.length){lo hi:aF}{v:bk}(hv:wO p lo hi v):c_ E w K v (.l e (e8 xs lo hi)):=by
 obtain⟨v1,v2,v3,v4⟩:=hv;have hl:=mB (xs:=xs) (lo:=lo) (hi:=hi) (by rw[<-hn];exact v2);have nil:hi-lo=0->e8 xs lo hi=[]:=λh0=>gb (hl.trans h0);cases hq:p.nil with
 |true=>
  rw[nG hq]at h;have hx:xs=[]:=by cases h;rfl
  subst hx;have hn:p.n=0:=hn;rw[v3 hq,nil (by omega)];exact .nl _ _ _
 |false=>
  rw[e_ hq]at h;rcases v4 hq with ⟨u1,rfl⟩|⟨u1,oo,u2,rfl⟩
  ·have:=(EL (lo:=lo) (hi:=hi) he h v1 (by rw[<-hn];exact v2)).2;rw[bH (by omega)]at this;simpa only[je,Addr.n7,hs]using this
  ·by_cases hz:hi-lo=0
   ·rw[nil hz];exact .nl _ _ _
   ·have h1:0<xs.length:=by omega
    obtain⟨t3,U,L⟩:=h.Jf h1;have:=L.cap;omega
theorem zL{E:fO}{w:bM}{K:aF->Prop}{v:bk}{e:aF}{te:TI}{xs:aQ}(he:E.ty e=ah te)(h:c_ E w K v (.l e xs)):oj w v xs te.ks.length (λ_ _ u x=>c_ E w K u x)/\∀y∈xs,y.map CV.kd=te.ks:=by
 cases h with
 |nl=>exact⟨⟨_,_,rfl,λh=>cJ rfl h⟩,λy hy=>by cases hy⟩
 |l _ _ b o cp ti U ht hc hm hK hs hcell gq=>obtain rfl:te=ti:=aJ (he.symm.trans ht);exact⟨⟨_,_,rfl,λ_=>⟨b,o,rfl,λi y j x hi hj=>⟨U i j,hcell i j y x hi hj,gq i j y x hi hj⟩⟩⟩,hs⟩
theorem pr{E:fO}{w:bM}{K:aF->Prop}{u:bk}{x:CV}(h:c_ E w K u x)(hl:ur x=ak):Sc u x:=by
 cases h with
 |i=>exact⟨rfl,trivial⟩
 |b=>exact⟨rfl,trivial⟩
 |s _ h=>exact⟨rfl,h⟩
 |nl=>simp[ur]at hl
 |l=>simp[ur]at hl
theorem kQ{E:fO}{w:bM}{K:aF->Prop}{u:bk}{x:CV}(hl:ur x=ak)(h:Sc u x):c_ E w K u x:=by
 obtain⟨h1,h2⟩:=h;subst h1;cases x with
 |i k n=>exact .i k n
 |b x=>exact .b x
 |s x=>exact .s x h2
 |l=>simp[ur]at hl
theorem uG{E:fO}{w:bM}{G:aF->aF->Pl}{i j:aF}{u:bk}{x:CV}(h:XC E w G i j u x)(hl:ur x=ak):Sc u x:=by
 cases x with
 |l=>simp[ur]at hl
 |i=>exact h
 |b=>exact h
 |s=>exact h
theorem uE{E:fO}{w:bM}{G:aF->aF->Pl}{i j:aF}{u:bk}{x:CV}(hl:ur x=ak)(h:Sc u x):XC E w G i j u x:=by
 cases x with
 |l=>simp[ur]at hl
 |i=>exact h
 |b=>exact h
 |s=>exact h
theorem oj.list{w:bM}{v:bk}{xs:aQ}{sz:aF}{R:aF->aF->bk->CV->Prop}(h:oj w v xs sz R)(hs:∀y∈xs,y.length=sz):
  ∃(A:az Addr) (cp:aF) (news:aA bk),v= .slice A xs.length cp/\news.length=xs.length*sz/\(xs=[]\/∃b o,A=ah (ad b o)/\∀j u,news[j]? =ah u->w.cell? (ad b (o+j))=ah u)/\
   ∀(i:aF) (y:aA CV) (j:aF) (x:CV),xs[i]? =ah y->y[j]? =ah x->∃u:bk,news[i*sz+j]? =ah u/\R i j u x:=by
 obtain⟨A,cp,rfl,h2⟩:=h;by_cases hx:xs=[]
 ·subst hx;exact⟨A,cp,[],rfl,by simp, .inl rfl,λi y j x hi hj=>by simp at hi⟩
 ·obtain⟨b,o,h3,h4⟩:=h2 hx;have ex:∀q,q<xs.length*sz->∃u,w.cell? (ad b (o+q))=ah u:=by
   intro q hq;have gf:0<sz:=by rcases De sz with h|h;(subst h;simp at hq);exact h
   have hi:q/sz<xs.length:=by rw[yu gf];exact hq
   have hj:q%sz<xs[q/sz].length:=by rw[hs _ (bB hi)];exact Df _ gf
   obtain⟨u,hu,_⟩:=h4 (q/sz) xs[q/sz] (q%sz) (xs[q/sz][q%sz]) (by simp[hi]) (by simp[hj]);refine⟨u, ?_⟩
   rw[<-hu];congr 2;have:=JT q sz;rw[Ef]at this;omega
  refine⟨A,cp,(cw (xs.length*sz)).map (λq=>(w.cell? (ad b (o+q))).getD undef),rfl,by simp, .inr ⟨b,o,h3,λj u hj=> ?_⟩,λi y j x hi hj=> ?_⟩
  ·rw[bL]at hj;by_cases jY:j<xs.length*sz
   ·obtain⟨u',sg⟩:=ex j jY;simp only[jY,vG,je,sg,yM,jA]at hj;rw[sg,hj]
   ·rw[kY (l:=cw (xs.length*sz)) (by simpa using jY)]at hj;cases hj
  ·obtain⟨u,hu,hr⟩:=h4 i y j x hi hj;refine⟨u, ?_,hr⟩
   have hil:=(aT.1 hi).1;have jY:=(aT.1 hj).1;rw[hs y (aR hi)]at jY;have jy:i*sz+j<xs.length*sz:=by have:(i+1)*sz<=xs.length*sz:=b8 _ hil;rw[dp]at this;omega
   rw[bL,vG jy,je];rw[show o+(i*sz+j)=o+i*sz+j by omega,hu];rfl
section
variable {P:c5} {E:fO} {σ:St} {a:Act} {w:bM} {c:e9} {o:fA} {nm:aF} {e:sR}
theorem xN(cf:Ok E σ w c){nm e:aF}{ex:aW}{xs:aQ}(h:σ (c9 nm)= .o (.row e ex xs)){lo hi:aF}{v:bk}(hv:wO (c.P nm) lo hi v):
  ∃te,E.ty e=ah te/\(∀y∈e8 xs lo hi,y.map CV.kd=te.ks)/\oj w v (e8 xs lo hi) te.ks.length (λi j u x=>if ex=ai then XC E w (c.G nm) (lo+i) j u x else c_ E w c.K u x):=by obtain⟨⟨ti,h1,h2,h3⟩,h4,_⟩:=cf.obj nm _ h;have:=LN h4 hv;rw[h2]at this;exact⟨ti,h1,λy hy=>h3 y (Cs hy),this⟩
theorem wa(cf:Ok E σ w c){nm e:aF}{ex:aW}{xs:aQ}(h:σ (c9 nm)= .o (.row e ex xs)):wO (c.P nm) 0 xs.length (lS (c.P nm)):=by obtain⟨h1,h2,ti,h3,h4,h5⟩:=lu cf h;rw[<-h1];exact LU (λhn=>(h5 hn).1) (λhn=>by rw[h1,h2 hn];rfl)
theorem IK(cf:Ok E σ w c){nm e:aF}{xs:aQ}(h:σ (c9 nm)= .o (.fQ e xs)):wO (c.P nm) 0 xs.length (lS (c.P nm)):=by
 obtain⟨h1,h2,ti,h3,h4⟩:=mX cf h;rw[<-h1];refine LU (λhn=> ?_) (λhn=>by rw[h1,h2 hn];rfl);obtain⟨j1,j2,_⟩:=cf.obj nm _ h;rw[e_ hn]at j1;by_cases hz:0<xs.length
 ·obtain⟨t3,U,L⟩:=j1.Jf hz;rw[j2];exact L.cap
 ·omega
theorem pq(cf:Ok E σ w c){nm e:aF}{xs:aQ}(h:σ (c9 nm)= .o (.fQ e xs)){lo hi:aF}{v:bk}(hv:wO (c.P nm) lo hi v):c_ E w c.K v (.l e (e8 xs lo hi)):=by obtain⟨h1,h2,ti,h3,h4⟩:=cf.obj nm _ h;exact I6 h3 h1 h2 h4 hv
theorem Bi(cf:Ok E σ w c){nm e e2 i j:aF}{xs:aQ}{te:TI}(h:σ (c9 nm)= .o (.row e ai xs))(ht:E.ty e=ah te)(hk:te.ks[j]? =ah (.l e2))(hi:i<(c.P nm).n):
  ∃ys y t2,xs[i]? =ah y/\y[j]? =ah (.l e2 ys)/\E.ty e2=ah t2/\plain t2.ks=ai/\(c.G nm i j).sz=t2.ks.length/\(∀y∈ys,y.map CV.kd=t2.ks)/\jh w (c.G nm i j) ys (λ_ _ u x=>Sc u x)/\wO (c.G nm i j) 0 ys.length (lS (c.G nm i j)):=by
 obtain⟨⟨tj,htj,gf,mK⟩,gd,_⟩:=cf.obj nm _ h;obtain rfl:te=tj:=aJ (ht.symm.trans htj);obtain⟨zs,y,hy,hyj,uu,_,tk,GX,sO,KY,DS,oK⟩:=uD (c:=c) gd mK hi hk;refine⟨zs,y,tk,hy,hyj,GX,sO,KY,DS,oK, ?_⟩
 have:=LU (p:=c.G nm i j) (λhn=>by obtain⟨_,_,q,_⟩:=oK.mem hn;exact q) (λhn=>by rw[oK.n,(oK.nil hn).1];rfl);rwa[oK.n]at this
theorem O5{E:fO}{w:bM}{K:aF->Prop}{v:bk}{e:aF}{xs:aQ}(h:c_ E w K v (.l e xs)):xs.length<=maxLen:=by
 cases h with
 |nl=>exact bI _
 |l _ _ b o cp ti U ht hc hm=>exact dg hc hm
theorem uC{w:bM}{p:Pl}{xs:aQ}{R:aF->aF->bk->CV->Prop}(h:jh w p xs R):xs.length<=maxLen:=by
 cases hn:p.nil with
 |true=>rw[(h.nil hn).1];exact bI _
 |false=>obtain⟨vals,_,h2,h3,_⟩:=h.mem hn;rw[<-h.n];exact dg h2 h3
theorem JQ(xs:aQ)(lo hi:aF):(e8 xs lo hi).length<=xs.length:=by unfold e8;simp;omega
theorem Ai(cf:Ok E σ w c){x:AV}{v:bk}(hx:eG E w c x v){el:aF}{xs:aQ}{te:TI}(h:(mE E x).val σ=ah (el,xs))(ht:E.ty el=ah te)(hp:plain te.ks=ai):
  oj w v xs te.ks.length (λ_ _ u x=>Sc u x)/\(∀y∈xs,y.map CV.kd=te.ks)/\xs.length<=maxLen:=by
 have ofH:∀{xs:aQ} {v:bk},c_ E w c.K v (.l el xs)->oj w v xs te.ks.length (λ_ _ u x=>Sc u x)/\(∀y∈xs,y.map CV.kd=te.ks)/\xs.length<=maxLen:=by intro xs v hh;obtain⟨h1,h2⟩:=zL ht hh;exact⟨h1.imp λi y j x u hi hj hr=>pr hr (iq hp (h2 y (aR hi)) hj),h2,O5 hh⟩
 have ofR:∀{nm:aF} {ex:aW} {xs:aQ} {lo hi:aF} {v:bk},σ (c9 nm)= .o (.row el ex xs)->wO (c.P nm) lo hi v->oj w v (e8 xs lo hi) te.ks.length (λ_ _ u x=>Sc u x)/\(∀y∈e8 xs lo hi,y.map CV.kd=te.ks)/\(e8 xs lo hi).length<=maxLen:=by
  intro nm ex xs lo hi v hg hv;obtain⟨t2,q1,q2,q3⟩:=xN cf hg hv;obtain rfl:te=t2:=aJ (ht.symm.trans q1);refine⟨q3.imp λi y j x u hi hj hr=> ?_,q2,dg (JQ _ _ _) (uC (cf.obj nm _ hg).at_)⟩
  have hl:=iq hp (q2 y (aR hi)) hj;split at hr
  ·exact uG hr hl
  ·exact pr hr hl
 cases x with
 |sh e' ys=>obtain⟨rfl,rfl⟩:=bW (aJ h);exact ofH hx
 |own n=>
  obtain⟨ob,hg,h⟩:=Rd.bind_some h;have hg:=dA hg;have hx:v=lS (c.P n):=hx;subst hx;cases ob with
  |row e' ex ys=>obtain⟨rfl,rfl⟩:=bW (aJ h);have:=ofR hg (wa cf hg);rwa[qS]at this
  |fQ e' ys=>obtain⟨rfl,rfl⟩:=bW (aJ h);have:=ofH (pq cf hg (IK cf hg));rwa[qS]at this
  |_=>simp at h
 |vw n lo hi=>
  obtain⟨ob,hg,h⟩:=Rd.bind_some h;have hg:=dA hg;cases ob with
  |row e' ex ys=>obtain⟨rfl,rfl⟩:=bW (aJ h);exact ofR hg hx
  |fQ e' ys=>obtain⟨rfl,rfl⟩:=bW (aJ h);exact ofH (pq cf hg hx)
  |_=>simp at h
 |inn n i j=>
  obtain⟨ob,hg,h⟩:=Rd.bind_some h;have hg:=dA hg;cases ob with
  |row e' ex ys=>
   cases ex with
   |false=>simp at h
   |true=>
   obtain⟨t1,ht1,h⟩:=Rd.bind_some h;have ht1:=dW ht1;split at h
   ·rename_i e2 Aa;obtain⟨rfl,rfl⟩:=bW (aJ h);obtain⟨⟨mA,hx⟩,_⟩:=hx;obtain⟨zs,y,t2,q1,q2,q3,q4,q5,q6,q7,q8⟩:=Bi cf hg ht1 Aa mA;obtain rfl:te=t2:=aJ (ht.symm.trans q3);rw[fE q1 q2];have:=LN q7 q8;rw[qS,q5]at this;subst hx;exact⟨this,q6,uC q7⟩
   ·simp at h
  |_=>simp at h
 |_=>simp[mE]at h
end
end Go.FG

namespace Go.FG
def fX(E:fO)(w:bM)(c:e9)(vals:dt bk)(xs:aA AV):Prop:=
 vals.size=xs.length/\∀(j:aF) (a:AV),xs[j]? =ah a->∃u:bk,vals[j]? =ah u/\eG E w c a u
theorem qj.cells{E:fO}{w:bM}{c:e9}{agg:aW}{xs:aA AV}{v:bk}(h:qj E w c agg xs v):fX E w c v.cells xs:=by
 unfold qj at h;split at h
 ·rename_i a;rw[Ew h.one];refine⟨rfl,λj a' hj=> ?_⟩
  cases j with
  |zero=>simp at hj;subst hj;exact⟨v,rfl,h⟩
  |succ=>simp at hj
 ·obtain⟨vals,rfl,hs,hv⟩:=h;exact⟨hs,hv⟩
 ·exact h.elim
theorem fX.one{E:fO}{w:bM}{c:e9}{xs:aA AV}{vals:dt bk}(h:fX E w c vals xs):∀u∈vals.toList,u.oneCell'=true:=by
 intro u hu;obtain⟨j,hj⟩:=bY hu;have jy:j<xs.length:=by rw[<-h.1];have:=(aT.1 hj).1;simpa using this
 obtain⟨u',h1,h2⟩:=h.2 j xs[j] (by simp[jy]);rw[cX,h1]at hj;cases hj;exact h2.one
theorem vl{α:Type}{xs ys:aA α}{j:aF}(h:j+ys.length<=xs.length):(iD xs j ys).length=xs.length:=by unfold iD;simp;omega
theorem pA{α:Type}{xs ys:aA α}{j:aF}(h:j+ys.length<=xs.length)(k:aF):(iD xs j ys)[k]? =if j<=k/\k<j+ys.length then ys[k-j]? else xs[k]? :=by
 unfold iD;by_cases h1:k<j
 ·rw[bH (by omega),cu,dH (by simp;omega),d_,bz h1]
 ·by_cases h2:k<j+ys.length
  ·rw[bz ⟨by omega,h2⟩,cu,da (by simp;omega),dH (by simp;omega)];congr 1;simp;omega
  ·rw[bH (by omega),cu,da (by simp;omega),da (by simp;omega),dQ];congr 1;simp;omega
theorem Cr{α:Type}{xs ys:aA α}{j:aF}{x:α}(h:x∈iD xs j ys):x∈xs\/x∈ys:=by
 unfold iD at h;simp only[ba]at h;rcases h with (h|h)|h
 ·exact .inl (k_ h)
 ·exact .inr h
 ·exact .inl (kZ h)
theorem fX.put{E:fO}{w:bM}{c:e9}{xs ys:aA AV}{vals vs:dt bk}(h:fX E w c vals xs)(h':fX E w c vs ys){j:aF}(hl:j+ys.length<=xs.length):fX E w c (ed vals j vs.toList) (iD xs j ys):=by
 have hb:j+vs.toList.length<=vals.size:=by rw[h.1,dR,h'.1];exact hl
 refine⟨by rw[fa hb,vl hl];exact h.1,λk a hk=> ?_⟩
 rw[pA hl]at hk;rw[gm hb,dR,h'.1];split at hk
 ·rename_i hc;rw[bz hc,cX];exact h'.2 _ a hk
 ·rename_i hc;rw[bH hc];exact h.2 k a hk
theorem Ss(off:aF):∀(l:aA bk) (k:aF) (cells:dt bk),off+k+l.length<=cells.size->
  ((l.zipIdx k).foldl (λr p=>r.setIfInBounds (off+p.2) p.1) cells).size=cells.size/\
  ∀q:aF,((l.zipIdx k).foldl (λr p=>r.setIfInBounds (off+p.2) p.1) cells)[q]? =if off+k<=q/\q<off+k+l.length then l[q-(off+k)]? else cells[q]? :=by
 intro l;induction l with
 |nil=>intro k cells _;refine⟨rfl,λq=> ?_⟩;rw[bH (by simp)];rfl
 |cons v rest ih=>
  intro k cells hl;simp only[db]at hl;obtain⟨h1,h2⟩:=ih (k+1) (cells.setIfInBounds (off+k) v) (by simp;omega);simp only[List.zipIdx_cons,Dt];refine⟨by rw[h1];simp,λq=> ?_⟩
  rw[h2 q];by_cases hq:q=off+k
  ·subst hq;rw[bH (by omega),bz ⟨by omega,by simp⟩,oh,bz rfl,bz (by omega)];simp
  ·by_cases hr:off+(k+1)<=q/\q<off+(k+1)+rest.length
   ·rw[bz hr,bz ⟨by omega,by simp;omega⟩];rw[show q-(off+k)=(q-(off+(k+1)))+1 by omega,dO]
   ·rw[bH hr,bH (by simp;omega),oh,bH (λh=>hq h.symm)]
theorem EE{off:aF}{vs cells:dt bk}(h:off+vs.size<=cells.size):(vs.zipIdx.foldl (λr (p:bk×aF)=>r.setIfInBounds (off+p.2) p.1) cells)=ed cells off vs.toList:=by
 rw[<-Array.foldl_toList,Array.toList_zipIdx];obtain⟨h1,h2⟩:=Ss off vs.toList 0 cells (by simpa using h);have hb:off+vs.toList.length<=cells.size:=by simpa using h
 apply Array.ext_getElem?;intro q;rw[h2 q,gm hb];simp
theorem P3{E:fO}{w:bM}{c:e9}{k:Ck}(h:(match k with| .o=>ak|_=>ai)=ai):eG E w c (Da k) (iJ k):=by cases k<;>first|rfl|exact⟨rfl,bI _⟩|simp at h
theorem Cu(k:Ck):bQ (Da k)=[]:=by cases k<;>rfl
theorem JS{E:fO}{w:bM}{c:e9}{ks:aA Ck}(h:Lf ks=ai):fX E w c (ks.map iJ).toArray (ks.map Da):=by
 refine⟨by simp,λj a hj=> ?_⟩
 rw[bL]at hj;cases hk:ks[j]? with
 |none=>rw[hk]at hj;cases hj
 |some k=>rw[hk]at hj;cases hj;exact⟨iJ k,by simp[hk],P3 (bn.1 h k (aR hk))⟩
section
variable {P:c5} {E:fO} {σ:St} {a:Act} {w:bM} {c:e9} {o:fA} {nm:aF} {e:sR}
theorem PB(hE:eB P E)(dK:fC E σ a w c){t:aF}{pl:aA (aF×aF)}{size:aF}(sO:∀f o n,E.fo t f=ah (o,n)->pl[f]? =ah (o,n)/\o+n<=size):∀(ps:aA (aF×dz)) (l:aA (aF×aA AV)),(Hd E t ps).val σ=ah l->
  ∀(vals:dt bk) (xs:aA AV),fX E w c vals xs->xs.length=size->(∀a∈xs,jg σ a)->
  ∃ja,pE (λi=>pl[i]?) vals (ps.map λ(i,x)=>(i,a.eval x))=ah ja/\fX E w c ja (M0 xs l)/\(∀a∈M0 xs l,jg σ a):=by
 intro ps;induction ps with
 |nil=>intro l h vals xs hv _ hk;obtain rfl:=aJ h;exact⟨vals,rfl,hv,hk⟩
 |cons p r ih=>
  obtain⟨f,x⟩:=p;intro l h vals xs hv gf hk;obtain⟨v,h1,h⟩:=Rd.bind_some h;obtain⟨O7,hkv⟩:=mr dK h1;cases v with
  |v g ys=>
   replace h:(match E.fo t f with|some (o,n)=>bif bC ys.length n then(Hd E t r).bind λl=> .ret ((o,ys)::l)else .fail|none=> .fail:Rd (aA (aF×aA AV))).val σ=ah l:=h;cases hf:E.fo t f with
   |none=>rw[hf]at h;simp at h
   |some q=>
    obtain⟨off,n⟩:=q;rw[hf]at h;obtain⟨hn,h⟩:=cR h;have hn:=aU hn;obtain⟨l',hl',h⟩:=Rd.bind_some h;obtain rfl:=aJ h;obtain⟨O8,hp2⟩:=sO f off n hf;have hc:=qj.cells O7;have mH:off+ys.length<=xs.length:=by omega
    obtain⟨ja,q1,q2,q3⟩:=ih l' hl' (ed vals off (a.eval x).cells.toList) (iD xs off ys) (hv.put hc mH) (by rw[vl mH];exact gf)
     (λb hb=>by
      rcases Cr hb with hb|hb
      ·exact hk b hb
      ·exact λn hn=>hkv n (bP.2 ⟨b,hb,hn⟩))
    refine⟨ja, ?_,q2,q3⟩
    simp only[fB,pE,O8];have c1:(a.eval x).cells.size=n:=by rw[hc.1,hn]
    have c2:¬(off+(a.eval x).cells.size>vals.size):=by rw[hc.1,hv.1];omega
    rw[bH (by simp[c1];rw[c1]at c2;omega)];have:=EE (off:=off) (vs:=(a.eval x).cells) (cells:=vals) (by omega);rw[<-q1];exact lM (λz=>pE (λi=>pl[i]?) z _) this
  |j_=>simp at h
  |un=>simp at h
theorem T9(hE:eB P E)(cf:Ok E σ w c)(dK:fC E σ a w c)(hd:∀d,o.dst=ah d->d<a.tmps.size){t:aF}{ps:dt (aF×dz)}(ho:o.op= .build t ps)(h:(me E nm o).val σ=ah e):gT P E σ a w c o e.ws:=by simp only[me,ho]at h;obtain⟨ti,h1,h⟩:=Rd.bind_some h;obtain⟨hb,h⟩:=cR h;obtain⟨l,h2,h⟩:=Rd.bind_some h;have ht:=dW h1;simp only[aL]at hb;obtain⟨zr,uq⟩:=hb;obtain⟨inf,hi,gf,_,_,hz⟩:=hE.info t ti ht;obtain⟨z,JY,DV,_⟩:=hz zr;obtain⟨d,hd',ha,_⟩:=hE.desc t ti ht;obtain⟨fs,rfl,KT⟩:=ha uq;obtain⟨pl,O8,hp2⟩:=hE.pl t ti ht uq fs hd';obtain⟨vals,q1,q2,q3⟩:=PB (size:=ti.ks.length) hE dK (λf o n hf=>⟨hp2 f o n hf,(KT f o n hf).choose_spec.2.2.2.2⟩) ps.toList l h2 _ _ (JS (w:=w) (c:=c) (E:=E) zr) (by simp) (λb hb=>by obtain⟨k,_,rfl⟩:=cU.1 hb;exact uv (Cu k));refine fW cf dK hd h (v:= .agg vals) ⟨vals,rfl,q2.1,q2.2⟩ (λn hn=>by obtain⟨x,hx,hn⟩:=bP.1 hn;exact q3 x hx n hn) ?_;unfold execOp;rw[ho];refine iW (run_build w t _ vals ?_);simp only[Program.built,hi,hd',JY,O8,DV,h_,Ak];exact q1
theorem Ua(hE:eB P E)(cf:Ok E σ w c)(dK:fC E σ a w c)(hd:∀d,o.dst=ah d->d<a.tmps.size){t f:aF}{x:dz}(ho:o.op= .field t x f)(h:(me E nm o).val σ=ah e):gT P E σ a w c o e.ws:=by
 simp only[me,ho]at h;obtain⟨v,h1,h⟩:=Rd.bind_some h;obtain⟨hv,hk⟩:=mr dK h1;cases v with
 |v g xs=>
  cases g with
  |true=>
   cases hf:E.fo t f with
   |none=>rw[hf]at h;simp at h
   |some r=>
    obtain⟨j,n⟩:=r;rw[hf]at h;obtain⟨hb,h⟩:=cR h;rw[aL]at hb;cases hx:xs.drop j with
    |nil=>rw[hx]at h;simp at h
    |cons y ys=>
     rw[hx]at h;have hj:xs[j]? =ah y:=by have:=dQ (xs:=xs) (i:=j) (j:=0);rw[hx]at this;simpa using this.symm
     obtain⟨vals,q1,q2,q3⟩:∃vals:dt bk,a.eval x= .agg vals/\vals.size=xs.length/\∀(j:aF) (b:AV),xs[j]? =ah b->∃u:bk,vals[j]? =ah u/\eG E w c b u:=hv;obtain⟨u,hu,V9⟩:=q3 j y hj;obtain⟨ti,ht,uq⟩:=hE.fo t f j n hf;obtain⟨d,hd',ha,_⟩:=hE.desc t ti ht;obtain⟨fs,rfl,KT⟩:=ha uq;obtain⟨fd,g1,g2,_⟩:=KT f j n hf;have hAg:=hE.fl t f hb.1 fs fd hd' g1 w;refine fW cf dK hd h (s:= .v ak [y]) (v:=u) V9 (λm hm=>hk m (bP.2 ⟨y,aR hj,by simpa [cM]using hm⟩)) ?_;unfold execOp;rw[ho];refine iW ?_;simp only[Instr.field,ch,run_underlying hd',bG,g1,q1,asAgg,cT,part,hAg,dv,if_false,g2,hu]
  |false=>simp at h
 |j_=>simp at h
 |un=>simp at h
theorem T7(hE:eB P E)(cf:Ok E σ w c)(dK:fC E σ a w c)(hd:∀d,o.dst=ah d->d<a.tmps.size){t:aF}(ho:o.op= .alloc t)(h:(me E nm o).val σ=ah e):gT P E σ a w c o e.ws:=by
 simp only[me,ho]at h;obtain⟨ti,h1,h⟩:=Rd.bind_some h;obtain⟨hb,h⟩:=cR h;obtain⟨u,h2,h⟩:=Rd.bind_some h;obtain⟨hf,jy⟩:=kI h2;obtain rfl:=aJ h;have hr:=PJ (P:=P) w hE (dW h1) hb;refine Ce cf dK hd (p:=⟨ak,w.heap.size,0,0,0,0⟩) (g:=λ_ _=>⟨ak,0,0,0,0,0⟩) hf jy (λc' hP _ _ _=> ?_) (λc' hP _ b hb=> ?_) (λxs hx b hb=> ?_) (λc' hP _=> ?_) (λn hn=> .inl (by simpa [cM,bQ]using hn)) (λb hb=>heap_alloc_old w _ b hb) (by simp) rfl rfl rfl (v:= .pointer (ah (ad w.heap.size 0))) (w':=w.alloc (.cells (ti.ks.map iJ).toArray t)) ?_
 ·obtain⟨z1,z2⟩:=JS (E:=E) (w:=w.alloc (.cells (ti.ks.map iJ).toArray t)) (c:=c') hb;exact⟨_,by rw[hP];exact nW.alloc w _ t,z1,z2⟩
 ·have:b=(c'.P nm).blk:=hb;rw[this,hP];exact cD _
 ·cases hx;obtain⟨k,_,rfl⟩:=cU.1 hb;exact uv (Cu k)
 ·show _=_;rw[hP]
 ·unfold execOp;rw[ho];exact iW hr
theorem afF(cf:Ok E σ w c)(dK:fC E σ a w c)(hd:∀d,o.dst=ah d->d<a.tmps.size){t:aF}{x:dz}(ho:o.op= .box t x)(h:(me E nm o).val σ=ah e):gT P E σ a w c o e.ws:=by
 simp only[me,ho]at h;obtain⟨v,h1,h⟩:=Rd.bind_some h;obtain⟨hv,hk⟩:=mr dK h1;cases v with
 |v g xs=>
  obtain⟨u,h2,h⟩:=Rd.bind_some h;obtain⟨hf,jy⟩:=kI h2;obtain rfl:=aJ h;have hr:=UG (P:=P) w t (a.eval x);have kx:∀b∈xs,jg σ b:=λb hb n hn=>hk n (bP.2 ⟨b,hb,hn⟩);have oU:=qj.cells hv;refine Ce cf dK hd (p:=⟨ak,w.heap.size,0,0,0,0⟩) (g:=λ_ _=>⟨ak,0,0,0,0,0⟩) hf jy (λc' hP _ hK hA=> ?_) (λc' hP _ b hb=> ?_) (λys hx b hb=> ?_) (λc' hP _=> ?_) (λn hn=> .inl (by simpa [cM,bQ]using hn)) (λb hb=>heap_alloc_old w _ b hb) (by simp) rfl rfl rfl (v:= .pointer (ah (ad w.heap.size 0))) (w':=w.alloc (.cells (a.eval x).cells t)) ?_
  ·refine⟨_,by rw[hP];exact nW.alloc w _ t,oU.1,λj y hj=> ?_⟩
   obtain⟨u,hu,hy⟩:=oU.2 j y hj;exact⟨u,hu,hy.frame (λb hb=>heap_alloc_old w _ b (cf.lt b hb)) hK (λn hn=>hA n (.inl (kx y (aR hj) n hn)))⟩
  ·have:b=(c'.P nm).blk:=hb;rw[this,hP];exact cD _
  ·cases hx;exact kx b hb
  ·show _=_;rw[hP]
  ·unfold execOp;rw[ho];exact iW hr
 |j_=>simp at h
 |un=>simp at h
end
end Go.FG

namespace Go.FG
def Ld(E:fO)(ks:aA Ck)(_i j:aF):Pl:=
 ⟨ai,0,0,0,0,match ks[j]? with|some (.l e)=>(match E.ty e with|some t=>t.ks.length|none=>0)|_=>0⟩
theorem vZ{p:Pl}{G:aF->aF->Pl}{xs:aQ}(h:∀i j,(G i j).nil=ai):Fv p G xs:=
 ⟨λi j _ hn=>(by rw[h]at hn;cases hn),λi j i' j' _ _ hn=>(by rw[h]at hn;cases hn)⟩
theorem Og{E:fO}{w:bM}{ks:aA Ck}(hf:flat E ks=ai)(hn:Lf ks=ai){i j:aF}{k:Ck}(hk:ks[j]? =ah k):XC E w (Ld E ks) i j (iJ k) (zR k):=by
 have h1:=bn.1 hf k (aR hk);have h2:=bn.1 hn k (aR hk);cases k with
 |l e=>
  replace h1:(match E.ty e with|some ti=>plain ti.ks|none=>ak)=true:=h1;cases ht:E.ty e with
  |none=>rw[ht]at h1;cases h1
  |some t=>
   rw[ht]at h1;refine⟨rfl,t,ht,h1, ?_,λy hy=>(by cases hy),⟨rfl,λ_=>⟨rfl,rfl⟩,λh=>by cases h⟩⟩
   show(match ks[j]? with|some (.l e)=>(match E.ty e with|some t=>t.ks.length|none=>0)|_=>0)=_;rw[hk];simp only[ht]
 |o=>cases h2
 |s=>exact⟨rfl,bI _⟩
 |_=>exact⟨rfl,trivial⟩
theorem L0{E:fO}{w:bM}{K:aF->Prop}{k:Ck}(h2:(match k with| .o=>ak|_=>ai)=ai):c_ E w K (iJ k) (zR k):=by
 cases k with
 |o=>cases h2
 |i k=>exact .i _ _
 |b=>exact .b _
 |s=>exact .s _ (bI _)
 |l e=>exact .nl _ _ _
theorem ZJ{k:Ck}(h2:(match k with| .o=>ak|_=>ai)=ai):(zR k).kd=k:=by cases k<;>first|rfl|cases h2
theorem yr{ks:aA Ck}(hn:Lf ks=ai)(n:aF):∀y∈aP ks n,y.map CV.kd=ks:=by
 intro y hy;rw[(List.mem_replicate.1 hy).2,ml];have:∀k∈ks,(CV.kd∘zR) k=k:=λk hk=>ZJ (bn.1 hn k hk);conv=>rhs;rw[<-List.map_id ks]
 exact P7 this
theorem uH{ks:aA Ck}{n i j:aF}{y:aA CV}{x:CV}(hi:(aP ks n)[i]? =ah y)(hj:y[j]? =ah x):i<n/\∃k,ks[j]? =ah k/\x=zR k:=by
 unfold aP at hi;have jy:=(aT.1 hi).1;rw[List.length_replicate]at jy;rw[List.getElem?_replicate,bz jy]at hi;cases hi;rw[bL]at hj;cases hk:ks[j]? with
 |none=>rw[hk]at hj;cases hj
 |some k=>rw[hk]at hj;cases hj;exact⟨jy,k,rfl,rfl⟩
theorem lT{ks:aA Ck}{n i j:aF}{k:Ck}(hi:i<n)(hk:ks[j]? =ah k):(madeCells (ks.map iJ).toArray (n*ks.length))[i*ks.length+j]? =ah (iJ k):=by
 have hj:=(aT.1 hk).1;have jy:i*ks.length+j<n*ks.length:=by have:(i+1)*ks.length<=n*ks.length:=b8 _ hi;rw[dp]at this;omega
 have hm:(i*ks.length+j)%ks.length=j:=by rw[Ef,Nat.mul_add_mod];exact Nat.mod_eq_of_lt hj
 unfold madeCells;rw[Oi,Array.getElem?_range,bz jy,je];congr 1;simp only[VW,bU,hm];rw[getElem!_def,h_,bL,hk];rfl
theorem zv{P:c5}{E:fO}{σ:St}(hE:eB P E){t:aF}{k:nq}(h:(pV E t).val σ=ah (.i k)):P.underlying t=ah (.int k):=by obtain⟨ti,h1,h2,h3⟩:=rM h;obtain⟨d,hd,_,hn⟩:=hE.desc t ti h1;rcases hn h2 with ⟨k,h,rfl⟩|⟨h,_⟩|⟨h,_⟩|⟨e',h,_⟩|⟨h,_⟩<;>rw[h3]at h<;>simp_all
theorem MQ{P:c5}{E:fO}(hE:eB P E){e:aF}{te:TI}(ht:E.ty e=ah te)(h:(u8s te.ks&& !te.agg)=ai):te.ks=[.i .u8]/\P.underlying e=ah (.int .u8):=by
 simp only[aL,dx]at h;have hk:te.ks=[.i .u8]:=by
  have:=h.1;unfold u8s at this;split at this
  ·assumption
  ·cases this
 obtain⟨d,hd,_,hn⟩:=hE.desc e te ht;refine⟨hk, ?_⟩
 rcases hn h.2 with ⟨k,h,rfl⟩|⟨h,_⟩|⟨h,_⟩|⟨e',h,_⟩|⟨h,_⟩<;>rw[hk]at h<;>simp_all
section
variable {P:c5} {E:fO} {σ:St} {a:Act} {w:bM} {c:e9} {o:fA} {nm:aF} {e:sR}
theorem PK(hE:eB P E){src dst el:aF}{te:TI}(hs:P.underlying src=ah (.slice el))(hd:P.underlying dst=ah .string)(he:P.underlying el=ah (.int .u8))(hk:te.ks=[.i .u8]){v:bk}{xs:aQ}
  (h:oj w v xs te.ks.length (λ_ _ u x=>Sc u x)) (mK:∀y∈xs,y.map CV.kd=te.ks):(convert src dst v).run P w= .ok (.string (bytesOf xs)) w:=by
 obtain⟨A,cp,rfl,h2⟩:=h;by_cases hx:xs=[]
 ·subst hx;rw[jO];have e0:bytesOf []=HD:=rfl;rw[e0];cases A with
  |none=>exact run_convert_bytes_nil w src el hs he 0 cp dst hd
  |some ad'=>rw[run_convert_bytes_string w src dst el _ 0 cp hs he hd];exact run_bytesToString w ad' 0 cp [] rfl
 ·obtain⟨b,oo,rfl,h3⟩:=h2 hx;have:=run_convert_bytes_arg w src el hs he b oo xs.length cp (xs.map λy=>bE (y.getD 0 (.b ak))) (by simp) (λi hi=>by
   have hy:=mK xs[i] (bB hi);rw[hk]at hy;cases hq:xs[i]with
   |nil=>rw[hq]at hy;cases hy
   |cons x r=>
    rw[hq]at hy;simp only[fB,List.cons.injEq,List.map_eq_nil_iff]at hy;obtain⟨hx1,rfl⟩:=hy;obtain⟨u,hu,hr⟩:=h3 i xs[i] 0 x (by simp[hi]) (by rw[hq];rfl);rw[hk]at hu;simp only[db,jO,bV,Nat.mul_one,yL]at hu;rw[hu,hr.1];cases x with
    |i k n=>cases hx1;simp[PQ,ka,hi,hq,bE]
    |_=>cases hx1) dst hd
  rw[this];unfold strOfNums bytesOf;rw[ml];rfl
theorem iR(xs:aQ):(bytesOf xs).size=xs.length:=by unfold bytesOf;simp[cj]
theorem mc(s:aq):(qO s).length=s.size:=by unfold qO;simp
theorem Hj{s:aq}{i j:aF}{y:aA CV}{x:CV}(hi:(qO s)[i]? =ah y)(hj:y[j]? =ah x):j=0/\∃b,s.data[i]? =ah b/\x= .i .u8 (b.toNat:aw):=by
 unfold qO at hi;rw[bL,cX]at hi;cases hb:s.data[i]? with
 |none=>rw[hb]at hi;cases hi
 |some b=>
  rw[hb]at hi;cases hi;cases j with
  |zero=>cases hj;exact⟨rfl,b,rfl,rfl⟩
  |succ j=>simp at hj
theorem Jz(s:aq):∀y∈qO s,y.map CV.kd=[.i .u8]:=by intro y hy;obtain⟨b,_,rfl⟩:=cU.1 hy;rfl
theorem Lm(hE:eB P E)(cf:Ok E σ w c)(dK:fC E σ a w c)(hd:∀d,o.dst=ah d->d<a.tmps.size){src dst:aF}{x:dz}(ho:o.op= .convert src dst x)(h:(me E nm o).val σ=ah e)(hc:e.cond=ai):gT P E σ a w c o e.ws:=by
 simp only[me,ho]at h;obtain⟨ks,h1,h⟩:=Rd.bind_some h;obtain⟨kd,h2,h⟩:=Rd.bind_some h;obtain⟨v,h3,h⟩:=Rd.bind_some h;obtain⟨ev,kv⟩:=iY dK h3;have exec:∀{u r:bk} {w':bM},a.eval x=u->(convert src dst u).run P w= .ok r w'->(execOp a.eval o).run P w= .ok (.value r) w':=by intro u r w' hu hr;unfold execOp;rw[ho];exact iW (by rw[hu];exact hr)
 cases kd with
 |i k=>
  cases ks with
  |i k0=>
   cases v with
   |i k1 n=>refine fW cf dK hd h (v:= .int k (k.wrap n)) rfl (λn hn=>by simp[cM,bQ]at hn) (exec ev ?_);simp[convert,run_underlying (zv hE h1),run_underlying (zv hE h2),Conv.intToInt]
   |_=>simp at h
  |_=>simp at h
 |s=>
  have Cg:=ll hE h2;cases ks with
  |s=>
   cases v with
   |s s=>refine fW cf dK hd h (v:= .string s) ⟨rfl,ev.2⟩ (λn hn=>by simp[cM,bQ]at hn) (exec ev.1 ?_);simp[convert,run_underlying (ll hE h1),run_underlying Cg]
   |_=>simp at h
  |l el=>
   have DT:=kL hE h1;have gen:(∀e,v=e->((mE E e).bind λ(e,xs)=>(sM E e).bind λte=>bif bC e el&&u8s te.ks&& !te.agg then LQ o (decide (xs.length<=4611686018427387904)) (.s (bytesOf xs))else .fail).val σ=ah ‹sR›)->gT P E σ a w c o (‹sR›).ws:=by
    intro h;obtain⟨⟨e1,xs⟩,q1,h⟩:=Rd.bind_some (h v rfl);obtain⟨te,q2,h⟩:=Rd.bind_some h;have q2:=dW q2;obtain⟨q3,h9⟩:=cR h;rw[nL,aL]at q3;have:=aU q3.1;subst this;obtain⟨q4,q5⟩:=MQ hE q2 q3.2;have hp:plain te.ks=true:=by rw[q4];rfl
    obtain⟨r1,r2,r3⟩:=Ai cf ev q1 q2 hp;exact E6 cf dK hd h9 hc (v:= .string (bytesOf xs)) (λhb=>⟨rfl,by unfold DX;rw[iR];exact cm hb⟩) (uv rfl) (λ_=>exec rfl (PK hE DT Cg q5 q4 r1 r2))
   cases v with
   |nl=>obtain⟨te,q1,h⟩:=Rd.bind_some h;obtain⟨q3,h⟩:=cR h;obtain⟨q4,q5⟩:=MQ hE (dW q1) q3;exact fW cf dK hd h (v:= .string HD) ⟨rfl,bI _⟩ (λn hn=>by simp[cM,bQ]at hn) (exec ev (run_convert_bytes_nil w src el DT q5 0 0 dst Cg))
   |_=>exact gen (λ_ hv=>by cases hv;exact h)
  |_=>simp at h
 |_=>simp at h
theorem Hb(hE:eB P E)(cf:Ok E σ w c)(dK:fC E σ a w c)(hd:∀d,o.dst=ah d->d<a.tmps.size){t:aF}{x y:dz}(ho:o.op= .makeSlice t x y)(h:(me E nm o).val σ=ah e)(hc:e.cond=ai):gT P E σ a w c o e.ws:=by
 simp only[me,ho]at h;obtain⟨⟨k1,n⟩,h1,h⟩:=Rd.bind_some h;obtain⟨⟨k2,m⟩,h2,h⟩:=Rd.bind_some h;obtain⟨ti,h3,h⟩:=Rd.bind_some h;have ex:=pW dK h1;have ey:=pW dK h2;have h3:=dW h3;split at h
 ·rename_i el uq AO;obtain⟨te,h4,h⟩:=Rd.bind_some h;have h4:=dW h4;obtain⟨h5,h⟩:=cR h;obtain⟨u,h6,h⟩:=Rd.bind_some h;obtain⟨hf,jy⟩:=kI h6;obtain rfl:=aJ h;generalize (bif plain te.ks then nm else nm+999)=nm at hf jy hc⊢;simp only[aL,bc,cC]at hc h5;obtain⟨⟨c0,rfl⟩,c1,c2⟩:=hc;obtain⟨zr,M_⟩:=h5;have hu:=pe hE h3 uq AO;obtain⟨inf,hi,gf,hby,lj,hz⟩:=hE.info el te h4;obtain⟨z,JY,DV,_⟩:=hz zr;have hr:=run_make (P:=P) w t el inf z hu hi JY k1 k2 n n c0 (Int.le_refl _) (by
   have e1:((n.toNat*te.bytes:aF):aw)<=140737488355328:=(by generalize n.toNat*te.bytes=q at c1⊢;omega)
   rw[hby,Int.mul_comm];rw[WI,Int.toNat_of_nonneg c0]at e1;omega) (by omega)
  rw[DV,gf]at hr;refine Ce cf dK hd (p:=⟨ak,w.heap.size,0,n.toNat,n.toNat,te.ks.length⟩) (g:=Ld E te.ks) hf jy (λc' hP hG _ _=> ?_) (λc' hP hG b hb=> ?_) (λxs hx b hb=>by cases hx) (λc' hP _=> ?_) (λn hn=> .inl (by simpa [cM,bQ]using hn)) (λb hb=>heap_alloc_old w _ b hb) (by simp) rfl rfl rfl (v:= .slice (ah ⟨w.heap.size,0,aj⟩) n.toNat n.toNat) (w':=w.alloc (.cells (madeCells (te.ks.map iJ).toArray (n.toNat*te.ks.length)) el)) ?_
  ·refine⟨⟨te,h4,by rw[hP],yr zr _⟩, ?_,λ_=>vZ (λi j=>(by rw[hG];try rfl))⟩
   rw[hP,hG];refine⟨by simp[aP],λhn=>(by cases hn),λ_=>⟨_,nW.alloc w _ el,cD _,(by show n.toNat<=2^63-1;omega),by rw[size_madeCells];simp,λi y j x hi hj=> ?_⟩⟩
   obtain⟨gq,k,hk,rfl⟩:=uH hi hj;refine⟨iJ k, ?_,by rw[bz rfl];exact Og M_ zr hk⟩
   rw[bV];exact lT gq hk
  ·rcases hb with ⟨_,rfl⟩|⟨_,i,j,_,hn,_⟩
   ·rw[hP];exact cD _
   ·rw[hG]at hn;cases hn
  ·show _=lS _;rw[hP];rfl
  ·unfold execOp;rw[ho];exact iW (by rw[ex,ey];exact hr)
 ·simp at h
end
end Go.FG

namespace Go.FG
theorem jR{xs:aQ}{i j:aF}{cs:aA CV}:(eD xs i j cs).length=xs.length:=by unfold eD;simp
theorem xT{xs:aQ}{i j:aF}{cs y:aA CV}(hy:xs[i]? =ah y)(i':aF):(eD xs i j cs)[i']? =if i'=i then ah (iD y j cs)else xs[i']? :=by
 have jy:=(aT.1 hy).1;have hd:xs.getD i []=y:=by rw[cY,hy];rfl
 unfold eD;rw[P6,hd];by_cases h:i'=i
 ·subst h;simp[jy]
 ·rw[bH h,bH (λe=>h e.symm)]
theorem nW.uniq{w:bM}{b:aF}{v1 v2:dt bk}(h1:nW w b v1)(h2:nW w b v2):v1=v2:=by obtain⟨t,fr,h1,_⟩:=h1;obtain⟨t',fr',h2,_⟩:=h2;rw[h1]at h2;cases h2;rfl
theorem jh.pos{w:bM}{p:Pl}{xs:aQ}{R:aF->aF->bk->CV->Prop}(h:jh w p xs R){i:aF}(hi:i<p.n):p.nil=ak/\∃vals,nW w p.blk vals:=by
 have jz:p.nil=false:=by
  cases hn:p.nil with
  |false=>rfl
  |true=>have:=(h.nil hn).1;subst this;have:=h.n;simp at this;omega
 obtain⟨vals,hb,_⟩:=h.mem jz;exact⟨jz,vals,hb⟩
theorem jh.akZ{w:bM}{p:Pl}{xs:aQ}{R R':aF->aF->bk->CV->Prop}(h:jh w p xs R){vals:dt bk}(hbv:nW w p.blk vals)(hs:∀y∈xs,y.length=p.sz){i j:aF}{cs:aA CV}{vs:aA bk}(hi:i<p.n)(hj:j+cs.length<=p.sz)(hl:vs.length=cs.length)
  (zq:∀(q:aF) (x:CV),cs[q]? =ah x->∃u:bk,vs[q]? =ah u/\R' i (j+q) u x)
  (hold:∀(i1:aF) (y:aA CV) (j1:aF) (x:CV) (u:bk),xs[i1]? =ah y->y[j1]? =ah x->(i1≠i\/¬(j<=j1/\j1<j+cs.length))->R i1 j1 u x->R' i1 j1 u x):
  p.off+i*p.sz+j+vs.length<=vals.size/\jh (w.setRow p.blk (ed vals (p.off+i*p.sz+j) vs)) p (eD xs i j cs) R':=by
 have jz:p.nil=false:=by
  cases hn:p.nil with
  |false=>rfl
  |true=>have:=(h.nil hn).1;subst this;have:=h.n;simp at this;omega
 obtain⟨ja,hb,SE,Xn,mH,hc⟩:=h.mem jz;obtain rfl:=hbv.uniq hb;have mb:i<xs.length:=by rw[<-h.n];exact hi
 have hy:xs[i]? =ah xs[i]:=by simp[mb]
 have I_:=hs xs[i] (bB mb);have h1:(i+1)*p.sz<=p.cap*p.sz:=b8 _ (by omega);rw[dp]at h1;have vf:p.off+i*p.sz+j+vs.length<=vals.size:=by omega
 refine⟨vf,⟨by rw[jR];exact h.n,λhn=>(by rw[jz]at hn;cases hn),λ_=> ?_⟩⟩
 refine⟨_,hb.setRow (fa vf),SE,Xn,by rw[fa vf];exact mH,λi' y j' x mA O0=> ?_⟩
 rw[xT hy]at mA;rw[gm vf];by_cases IW:i'=i
 ·subst IW;rw[bz rfl]at mA;cases mA;rw[pA (by omega)]at O0;by_cases hq:j<=j'/\j'<j+cs.length
  ·rw[bz hq]at O0;rw[bz (by omega)];obtain⟨u,hu,hr⟩:=zq (j'-j) x O0;refine⟨u, ?_, ?_⟩
   ·rw[<-hu];congr 1;omega
   ·rwa[show j+(j'-j)=j' by omega]at hr
  ·rw[bH hq]at O0;obtain⟨u,hu,hr⟩:=hc _ _ _ _ hy O0;exact⟨u,by rw[bH (by omega)];exact hu,hold _ _ _ _ _ hy O0 (.inr hq) hr⟩
 ·rw[bH IW]at mA;obtain⟨u,hu,hr⟩:=hc _ _ _ _ mA O0;refine⟨u, ?_,hold _ _ _ _ _ mA O0 (.inl IW) hr⟩
  have Qj:j'<p.sz:=by rw[<-hs y (aR mA)];exact(aT.1 O0).1
  rw[bH ?_];exact hu;rcases P9 IW with jy|hgt
  ·have:(i'+1)*p.sz<=i*p.sz:=b8 _ jy;rw[dp]at this;omega
  ·have:(i+1)*p.sz<=i'*p.sz:=b8 _ hgt;rw[dp]at this;omega
theorem jh.put{w:bM}{p:Pl}{xs:aQ}{R R':aF->aF->bk->CV->Prop}(h:jh w p xs R){vals:dt bk}(hbv:nW w p.blk vals)(hs:∀y∈xs,y.length=p.sz){i j:aF}{cs:aA CV}{vs:aA bk}(hi:i<p.n)(hj:j+cs.length<=p.sz)(hl:vs.length=cs.length)
  (zq:∀(q:aF) (x:CV),cs[q]? =ah x->∃u:bk,vs[q]? =ah u/\R' i (j+q) u x)
  (hold:∀(i:aF) (y:aA CV) (j:aF) (x:CV) (u:bk),xs[i]? =ah y->y[j]? =ah x->R i j u x->R' i j u x):
  p.off+i*p.sz+j+vs.length<=vals.size/\jh (w.setRow p.blk (ed vals (p.off+i*p.sz+j) vs)) p (eD xs i j cs) R':=
 h.akZ hbv hs hi hj hl zq (λi1 y j1 x u h1 h2 _ hr=>hold i1 y j1 x u h1 h2 hr)
theorem lk{xs:aQ}{ks:aA Ck}(h:∀y∈xs,y.map CV.kd=ks)(i j:aF):gh xs i j↔i<xs.length/\∃e,ks[j]? =ah (.l e):=by
 constructor
 ·rintro ⟨y,x,hy,hx,hl⟩;refine⟨(aT.1 hy).1, ?_⟩
  cases x with
  |l e ys=>exact⟨e,by rw[<-h y (aR hy),bL,hx];rfl⟩
  |i=>simp[ur]at hl
  |b=>simp[ur]at hl
  |s=>simp[ur]at hl
 ·rintro ⟨hi,e,hk⟩;have hy:xs[i]? =ah xs[i]:=by simp[hi]
  have h1:=h xs[i] (bB hi);rw[<-h1,bL]at hk;cases hx:xs[i][j]? with
  |none=>rw[hx]at hk;cases hk
  |some x=>
   rw[hx]at hk;cases x with
   |l e2 ys=>exact⟨_,_,hy,hx,rfl⟩
   |i=>cases hk
   |b=>cases hk
   |s=>cases hk
theorem Pb{y cs:aA CV}{ks:aA Ck}{j:aF}(hy:y.map CV.kd=ks)(hc:cs.map CV.kd=(ks.drop j).take cs.length)(hj:j+cs.length<=ks.length):(iD y j cs).map CV.kd=ks:=by
 have hl:y.length=ks.length:=by rw[<-hy];simp
 apply VU;intro q;rw[bL,pA (by omega)];split
 ·rename_i h;have:(cs.map CV.kd)[q-j]? =((ks.drop j).take cs.length)[q-j]? :=by rw[hc]
  rw[bL]at this;rw[this,d_,bz (by omega),dQ];congr 1;omega
 ·rw[<-hy,bL]
theorem xV{xs:aQ}{ks:aA Ck}{i j:aF}{cs:aA CV}(h:∀y∈xs,y.map CV.kd=ks)(hc:cs.map CV.kd=(ks.drop j).take cs.length)(hj:j+cs.length<=ks.length)(hi:i<xs.length):∀y∈eD xs i j cs,y.map CV.kd=ks:=by
 intro y hy;obtain⟨q,hq⟩:=bY hy;rw[xT (y:=xs[i]) (by simp[hi])]at hq;split at hq
 ·cases hq;exact Pb (h _ (bB hi)) hc hj
 ·exact h y (aR hq)
section
variable {P:c5} {E:fO} {σ:St} {a:Act} {w:bM} {c:e9} {o:fA} {nm:aF} {e:sR}
theorem zk{ex:aW}{k:Ck}{x:AV}{cv:CV}{ws:aA (aF×eQ)}{u:bk}(hp:plain [k]=ai)(h:(Iy ex k x).val σ=ah (cv,ws))(hx:eG E w c x u):cv.kd=k/\Sc u cv/\ur cv=ak/\ws=[]:=by
 cases k with
 |i k=>
  cases x with
  |i k' n=>
   replace h:(if k=k' then Rd.ret (CV.i k n,[])else .fail:Rd (CV×aA (aF×eQ))).val σ=ah (cv,ws):=h;split at h
   ·rename_i hk;subst hk;obtain⟨rfl,rfl⟩:=bW (aJ h);exact⟨rfl,⟨hx,trivial⟩,rfl,rfl⟩
   ·simp at h
  |_=>simp[Iy]at h
 |b=>
  cases x with
  |b n=>obtain⟨rfl,rfl⟩:=bW (aJ h);exact⟨rfl,⟨hx,trivial⟩,rfl,rfl⟩
  |_=>simp[Iy]at h
 |s=>
  cases x with
  |s n=>obtain⟨rfl,rfl⟩:=bW (aJ h);exact⟨rfl,hx,rfl,rfl⟩
  |_=>simp[Iy]at h
 |l=>simp[plain]at hp
 |o=>simp[plain]at hp
theorem B4{ex:aW}:∀{ks:aA Ck} {xs:aA AV} {cs:aA CV} {ws:aA (aF×eQ)} (hp:plain ks=ai) (h:(zl ex ks xs).val σ=ah (cs,ws)),cs.map CV.kd=ks/\cs.length=xs.length/\ws=[]/\
  ∀(vals:dt bk),fX E w c vals xs->∀(q:aF) (x:CV),cs[q]? =ah x->vals[q]? =ah (PQ x)/\ur x=ak/\okC x:=by
 intro ks;induction ks with
 |nil=>
  intro xs cs ws hp h;cases xs with
  |nil=>obtain⟨rfl,rfl⟩:=bW (aJ h);exact⟨rfl,rfl,rfl,λ_ _ q x hq=>by simp at hq⟩
  |cons=>simp[zl]at h
 |cons k ks ih=>
  intro xs cs ws hp h;cases xs with
  |nil=>simp[zl]at h
  |cons x xs=>
   obtain⟨⟨cv,w1⟩,h1,h⟩:=Rd.bind_some h;obtain⟨⟨cr,w2⟩,h2,h⟩:=Rd.bind_some h;obtain⟨rfl,rfl⟩:=bW (aJ h);simp only[plain,sU,aL]at hp;have O8:plain [k]=true:=by simp[plain,hp.1]
   have hp2:plain ks=true:=hp.2;obtain⟨i1,i2,i3,i4⟩:=ih hp2 h2;have e1:=λu (hu:eG E w c x u)=>zk O8 h1 hu;have kd1:cv.kd=k/\w1=[]:=by
    cases k<;>cases x<;>simp[Iy,plain]at h1 O8<;>first
     |(obtain⟨rfl,rfl⟩:=h1;exact⟨rfl,rfl⟩)
     |(split at h1<;>simp at h1;rename_i hk;subst hk;obtain⟨rfl,rfl⟩:=h1;exact⟨rfl,rfl⟩)
   refine⟨by simp[kd1.1,i1],by simp[i2],by rw[kd1.2,i3];rfl,λvals hv q y hq=> ?_⟩
   cases q with
   |zero=>cases hq;obtain⟨u,hu,ha⟩:=hv.2 0 x rfl;obtain⟨_,⟨rfl,ho⟩,hl,_⟩:=e1 u ha;exact⟨hu,hl,ho⟩
   |succ q=>
    have Nd:fX E w c (vals.extract 1 vals.size) xs:=by
     refine⟨by simp;have:=hv.1;simp at this;omega,λj b hj=> ?_⟩
     obtain⟨u,hu,hb⟩:=hv.2 (j+1) b hj;refine⟨u, ?_,hb⟩
     have:=(dU.1 hu).1;rw[ea,bz (by omega),iZ];exact hu
    obtain⟨r1,r2⟩:=i4 _ Nd q y hq;refine⟨?_,r2⟩
    rw[ea]at r1;split at r1
    ·rw[iZ];exact r1
    ·cases r1
theorem ZE{s:Sem Unit}{w':bM}(hr:s.run P w= .ok () w'):(do s;pure Next.skip:Sem Next).run P w= .ok .skip w':=by simp only[ch,hr,bG,cT]
theorem EV:∀{ys:aA AV} {q0 q n2:aF},zD q0 ys=ah (q,n2)->q0<=q/\ys[q-q0]? =ah (.own n2)/\∀(k m:aF),ys[k]? =ah (.own m)->k=q-q0:=by
 have YZ:∀{ys:aA AV},Jn ys=ai->∀(k m:aF),ys[k]? ≠ah (.own m):=by
  intro ys;induction ys with
  |nil=>intro h k m h;simp at h
  |cons y ys ih=>
   intro h k m hk;cases y with
   |own n=>cases h
   |_=>
    cases k with
    |zero=>cases hk
    |succ k=>exact ih (by simpa [Jn]using h) k m hk
 intro ys;induction ys with
 |nil=>intro q0 q n2 h;cases h
 |cons y ys ih=>
  intro q0 q n2 h;have step:zD (q0+1) ys=ah (q,n2)->(∀m,y≠ .own m)->q0<=q/\(y::ys)[q-q0]? =ah (.own n2)/\∀(k m:aF),(y::ys)[k]? =ah (.own m)->k=q-q0:=by
   intro h hy;obtain⟨h1,h2,h3⟩:=ih h;have e:q-q0=(q-(q0+1))+1:=by omega
   refine⟨by omega,by rw[e,dO];exact h2,λk m hk=> ?_⟩
   cases k with
   |zero=>cases hk;exact cJ rfl (hy m)
   |succ k=>have:=h3 k m hk;omega
  cases y with
  |own n=>
   unfold zD at h;cases h1:Jn ys with
   |false=>rw[h1]at h;cases h
   |true=>
    rw[h1]at h;cases h;refine⟨cD _,by rw[Nat.sub_self];rfl,λk m hk=> ?_⟩
    cases k with
    |zero=>omega
    |succ k=>exact cJ hk (YZ h1 k m)
  |_=>exact step (by simpa [zD]using h) (λm h=>by cases h)
theorem W7{E:fO}{w:bM}{c:e9}{e2 n2:aF}{zs:aQ}:∀{ks:aA Ck} {ys:aA AV} {cs:aA CV},DL e2 n2 zs ks ys=ah cs->cs.map CV.kd=ks/\cs.length=ys.length/\
  ∀(q:aF) (x:CV),cs[q]? =ah x->∃y,ys[q]? =ah y/\((ur x=ak/\∀u,eG E w c y u->Sc u x)\/(x= .l e2 zs/\y= .own n2)):=by
 intro ks;induction ks with
 |nil=>
  intro ys cs h;cases ys with
  |nil=>cases h;exact⟨rfl,rfl,λq x h=>by simp at h⟩
  |cons=>cases h
 |cons k ks ih=>
  intro ys cs h
  have go:∀{y:AV} {r:aA AV} {x:CV},ys=y::r->(DL e2 n2 zs ks r).map (x:: ·)=ah cs->x.kd=k->((ur x=ak/\∀u,eG E w c y u->Sc u x)\/(x= .l e2 zs/\y= .own n2))->
    cs.map CV.kd=k::ks/\cs.length=ys.length/\∀(q:aF) (x:CV),cs[q]? =ah x->∃y,ys[q]? =ah y/\((ur x=ak/\∀u,eG E w c y u->Sc u x)\/(x= .l e2 zs/\y= .own n2)):=by
   intro y r x hy hm hk hx
   subst hy
   cases hr:DL e2 n2 zs ks r with
   |none=>rw[hr]at hm;cases hm
   |some cr=>
    rw[hr]at hm;cases hm;obtain⟨i1,i2,i3⟩:=ih hr;refine⟨by simp[hk,i1],by simp[i2],λq z hq=> ?_⟩
    cases q with
    |zero=>cases hq;exact⟨y,rfl,hx⟩
    |succ q=>exact i3 q z hq
  cases ys with
  |nil=>cases k<;>cases h
  |cons y r=>
   cases k with
   |i k=>
    cases y with
    |i k' n=>
     unfold DL at h;split at h
     ·rename_i hk;subst hk;exact go rfl h rfl (.inl ⟨rfl,λu hu=>⟨hu,trivial⟩⟩)
     ·cases h
    |_=>cases h
   |b=>
    cases y with
    |b n=>exact go rfl h rfl (.inl ⟨rfl,λu hu=>⟨hu,trivial⟩⟩)
    |_=>cases h
   |s=>
    cases y with
    |s n=>exact go rfl h rfl (.inl ⟨rfl,λu hu=>hu⟩)
    |_=>cases h
   |l e=>
    cases y with
    |own n=>
     unfold DL at h;cases hb:(bC e e2&&bC n n2)with
     |false=>rw[hb]at h;cases h
     |true=>rw[hb,au]at h;simp only[aL]at hb;have:=aU hb.1;subst this;have:=aU hb.2;subst this;exact go rfl h rfl (.inr ⟨rfl,rfl⟩)
    |_=>cases h
   |o=>cases y<;>cases h
theorem OS(cf:Ok E σ w c)(dK:fC E σ a w c)(hd:∀d,o.dst=ah d->d<a.tmps.size){n i j:aF}{ys:aA AV}{ws:aA (aF×eQ)}{X:dt bk}(hF:zu n=ai)(hi:i<(c.P n).n)(h:(Ht E n i j ys).val σ=ah ws)(oU:fX E w c X ys)(lj:0<ys.length)
  (exec:∀(cur:dt bk),nW w (c.P n).blk cur->(c.P n).off+i*(c.P n).sz+j+X.size<=cur.size->(execOp a.eval o).run P w= .ok .skip (w.setRow (c.P n).blk (ed cur ((c.P n).off+i*(c.P n).sz+j) X.toList))):gT P E σ a w c o (ws++dw o .un):=by
 unfold Ht at h;obtain⟨ob,hg0,h⟩:=Rd.bind_some h;have hg:=dA hg0;split at h
 ·rename_i el xs;obtain⟨te,h6,h⟩:=Rd.bind_some h;have h6:=dW h6;split at h
  ·rename_i q n2 xB;cases hb0:bC n n2 with
   |true=>rw[hb0]at h;simp at h
   |false=>
    rw[hb0,ax]at h;have iw:n≠n2:=λe=>by subst e;rw[Nat.beq_refl]at hb0;cases hb0
    obtain⟨ob2,arn,h⟩:=Rd.bind_some h;have hg2:=dA arn;split at h
    ·rename_i e2 zs;obtain⟨t2,h7,h⟩:=Rd.bind_some h;have h7:=dW h7;obtain⟨h8,h⟩:=cR h;simp only[aL]at h8;obtain⟨sO,hle⟩:=h8;have hle:=cL hle;split at h
     ·rename_i cs HO;obtain rfl:=aJ h;obtain⟨m1,m2,m3⟩:=W7 (E:=E) (w:=w) (c:=c) HO;obtain⟨_,_,hu⟩:=EV xB;rw[yv]at hu;obtain⟨⟨t1,q1,gf,mK⟩,gd,gq⟩:=cf.obj n _ hg;obtain rfl:te=t1:=aJ (h6.symm.trans q1);obtain⟨⟨t3,q3,KY,DS⟩,oK,_⟩:=cf.obj n2 _ hg2;obtain rfl:t2=t3:=aJ (h7.symm.trans q3);have jY:j+cs.length<=te.ks.length:=by rw[m2];exact hle
      have hkd:cs.map CV.kd=(te.ks.drop j).take cs.length:=by rw[m1,m2]
      have mb:i<xs.length:=by rw[<-gd.n];exact hi
      obtain⟨jz,vals,hb⟩:=gd.pos hi;have IX:=lk mK;have sF:=xV mK hkd jY mb;have Ci:=lk sF;have same:∀i' j',gh (eD xs i j cs) i' j'->gh xs i' j':=λi' j' hx=>(IX i' j').2 (by have:=(Ci i' j').1 hx;rwa[jR]at this);have I_:∀y∈xs,y.length=(c.P n).sz:=λy hy=>by rw[gf,<-mK y hy];simp
      let w':=w.setRow (c.P n).blk (ed vals ((c.P n).off+i*(c.P n).sz+j) X.toList);have rL:∀b,b≠(c.P n).blk->w'.heap[b]? =w.heap[b]? :=λb hb=>setRow_other w _ b _ hb;have aur:∀i j,¬gh zs i j:=by rintro i j ⟨y,x,h1,h2,h3⟩;rw[iq sO (DS y (aR h1)) h2]at h3;cases h3
      have Y8:(c.P n2).nil=ak->fJ c n2 (.row e2 ai zs) (c.P n2).blk:=λhn=> .inl ⟨hn,rfl⟩;have Lu:fJ c n (.row el ai xs) (c.P n).blk:= .inl ⟨jz,rfl⟩;have ajk:(c.P n2).nil=ak->(c.P n2).blk≠(c.P n).blk:=λhn he=>iw (cf.sep n _ n2 _ _ hg hg2 Lu (by rw[<-he];exact Y8 hn));let c':e9:=⟨c.P,λm i' j'=>if m=n/\i'=i/\j'=j+q then c.P n2 else c.G m i' j',c.K⟩
      have hG1:c'.G n i (j+q)=c.P n2:=bz ⟨rfl,rfl,rfl⟩;have hG2:∀i' j',¬(i'=i/\j'=j+q)->c'.G n i' j'=c.G n i' j':=λi' j' h=>bH (λe=>h ⟨e.2.1,e.2.2⟩);have hG3:∀m,m≠n->c'.G m=c.G m:=λm hm=>by funext i' j';exact bH (λe=>hm e.1)
      have XK:∀i' j',gh (eD xs i j cs) i' j'->(c'.G n i' j').nil=ak->(i'=i/\j'=j+q/\(c.P n2).nil=ak/\(c'.G n i' j').blk=(c.P n2).blk)\/(¬(i'=i/\j'=j+q)/\(c.G n i' j').nil=ak/\(c'.G n i' j').blk=(c.G n i' j').blk/\fJ c n (.row el ai xs) (c.G n i' j').blk):=by
       intro i' j' hh hn;by_cases he:i'=i/\j'=j+q
       ·obtain⟨rfl,rfl⟩:=he;rw[hG1]at hn⊢;exact .inl ⟨rfl,rfl,hn,rfl⟩
       ·rw[hG2 i' j' he]at hn⊢;exact .inr ⟨he,hn,rfl, .inr ⟨rfl,i',j',same i' j' hh,hn,rfl⟩⟩
      obtain⟨mH,AL⟩:=jh.akZ (R':=λi1 j1 u1 x1=>if ai=ai then XC E w' (c'.G n) i1 j1 u1 x1 else c_ E w' c'.K u1 x1) gd hb I_ (i:=i) (j:=j) (cs:=cs) (vs:=X.toList) hi (by rw[gf];exact jY) (by rw[dR,oU.1,m2])
       (λk x hk=>by
        obtain⟨y,hy,hxy⟩:=m3 k x hk;obtain⟨u,hu1,hu2⟩:=oU.2 k y hy;refine⟨u,by rw[cX];exact hu1, ?_⟩
        rw[bz rfl];rcases hxy with ⟨hl,hsc⟩|⟨rfl,rfl⟩
        ·exact uE hl (hsc u hu2)
        ·have vV:k=q:=hu k n2 hy;subst vV;have hu2:u=lS (c.P n2):=hu2;refine⟨by rw[hG1];exact hu2,t2,h7,sO,by rw[hG1];exact KY,DS, ?_⟩
         rw[hG1];exact oK.frame (λhn=>rL _ (ajk hn)) (λi1 j1 y1 x1 u1 g1 g2 hr=>by rw[bz rfl]at hr;exact uG hr (iq sO (DS y1 (aR g1)) g2)))
       (λi1 y1 j1 x1 u1 h1 h2 arR hr=>by
        rw[bz rfl]at hr⊢;have DR:XC E w' (c.G n) i1 j1 u1 x1:=hr.frame (λhl hn=>rL _ ((gq rfl).out i1 j1 ⟨y1,x1,h1,h2,hl⟩ hn jz));have arF:¬(i1=i/\j1=j+q):=by
         rintro ⟨rfl,rfl⟩;have hq:q<cs.length:=by obtain⟨_,hq,_⟩:=EV xB;rw[yv]at hq;rw[m2];exact(aT.1 hq).1
         rcases arR with h|h
         ·exact h rfl
         ·exact h ⟨by omega,by omega⟩
        cases x1 with
        |l ee zz=>obtain⟨r1,r2⟩:=DR;unfold XC;rw[hG2 i1 j1 arF];exact⟨r1,r2⟩
        |i=>exact DR
        |b=>exact DR
        |s=>exact DR)
      have hr:=exec vals hb (by rw[dR]at mH;exact mH);let σ1:=pM (pM σ (c9 n) (.o (.row el ai (eD xs i j cs)))) (c9 n2) (.o .dead);obtain⟨s1,s2,s3⟩:=rY σ1 o .un;have key:∀m,wr σ1 (dw o .un) (c9 m)=if m=n2 then .o .dead else if m=n then .o (.row el ai (eD xs i j cs))else σ (c9 m):=λm=>by rw[s3];show(pM (pM σ (c9 n) (.o (.row el ai (eD xs i j cs)))) (c9 n2) (.o .dead)) (c9 m)=_;rw[pZ,pZ]
      have aiA:∀m,σ (c9 m)≠ .jZ->wr σ1 (dw o .un) (c9 m)≠ .jZ:=λm hm=>by rw[key];split;simp;split;simp;exact hm
      have hA:qX σ c c':=λm _=>⟨rfl,λhf=>hG3 m (λe=>by subst e;rw[hF]at hf;cases hf)⟩
      have hCh:∀m,m=n\/m=n2->∃ob,σ (c9 m)= .o ob:=by rintro m (rfl|rfl);exact⟨_,hg⟩;exact⟨_,hg2⟩
      have gL:∀m x,(m=n\/m=n2)->wr σ1 (dw o .un) (c9 m)= .o x->(m=n2/\x= .dead)\/(m=n/\x= .row el ai (eD xs i j cs)):=by
       intro m x hm hx;rw[key]at hx;by_cases W6:m=n2
       ·rw[bz W6]at hx;cases hx;exact .inl ⟨W6,rfl⟩
       ·rw[bH W6,bz (hm.resolve_right W6)]at hx;cases hx;exact .inr ⟨hm.resolve_right W6,rfl⟩
      have hh:=cf.wR (σ':=wr σ1 (dw o .un)) (w':=w') (c':=c') (λm=>m=n\/m=n2) (λm hm=>by rw[key,bH (λe=>hm (.inr e)),bH (λe=>hm (.inl e))]) aiA hA (λm hm _=>hG3 m (λe=>hm (.inl e)))
       (λb _ Xr=>rL b (λe=>Xr ⟨n,_, .inl rfl,hg,by rw[e];exact Lu⟩)) (by simp[w',lH]) (λ_ h=>h) (λ_ h=> .inl h) (λb hb=>ju (cf.lt b hb) (by simp[w',lH]))
       (λm x hm hx=>by
        rcases gL m x hm hx with ⟨rfl,rfl⟩|⟨rfl,rfl⟩
        ·trivial
        ·refine⟨⟨te,q1,gf,sF⟩,AL,λ_=>⟨λi1 j1 hh hn _ he=> ?_,λi1 j1 i2 j2 h1 h2 n1 n2' he=> ?_⟩⟩
         ·rcases XK i1 j1 hh hn with ⟨_,_,g1,g2⟩|⟨_,g1,g2,g3⟩
          ·exact ajk g1 (g2.symm.trans he)
          ·exact(gq rfl).out i1 j1 (same i1 j1 hh) g1 jz (g2.symm.trans he)
         ·rcases XK i1 j1 h1 n1 with ⟨a1,a2,a3,a4⟩|⟨a1,a2,a3,a4⟩<;>rcases XK i2 j2 h2 n2' with ⟨b1,b2,b3,b4⟩|⟨b1,b2,b3,b4⟩
          ·exact⟨a1.trans b1.symm,a2.trans b2.symm⟩
          ·exfalso;exact iw (cf.sep m _ n2 _ _ hg hg2 b4 (by rw[<-b3,<-he,a4];exact Y8 a3))
          ·exfalso;exact iw (cf.sep m _ n2 _ _ hg hg2 a4 (by rw[<-a3,he,b4];exact Y8 b3))
          ·exact(gq rfl).one i1 j1 i2 j2 (same i1 j1 h1) (same i2 j2 h2) a2 b2 (a3.symm.trans (he.trans b3)))
       (λm x b hm hx hf=>by
        rcases gL m x hm hx with ⟨rfl,rfl⟩|⟨rfl,rfl⟩
        ·exact hf.elim
        ·have air:j5 (λk=>k=m\/k=n2) σ c b:=by
          rcases hf with ⟨_,rfl⟩|⟨_,i1,j1,hh,hn,rfl⟩
          ·exact⟨m,_, .inl rfl,hg,Lu⟩
          ·rcases XK i1 j1 hh hn with ⟨_,_,g1,g2⟩|⟨_,g1,g2,g3⟩
           ·rw[g2];exact⟨n2,_, .inr rfl,hg2,Y8 g1⟩
           ·rw[g2];exact⟨m,_, .inl rfl,hg,g3⟩
         exact⟨.inl air,cf.Jo air.own⟩)
       (λm x m' x' b hm xA hx pF hf ve=>by
        rcases gL m x hm hx with ⟨rfl,rfl⟩|⟨rfl,rfl⟩
        ·exact hf.elim
        ·rcases gL m' x' xA pF with ⟨rfl,rfl⟩|⟨rfl,rfl⟩
         ·exact ve.elim
         ·rfl)
       (λm bs hm hx=>by rcases gL m _ hm hx with ⟨_,h⟩|⟨_,h⟩<;>cases h) rfl rfl rfl
      intro K Q hK;refine C_ hr (hK undef w' c' hh.1 ?_ hh.2 hA);refine dK.wR cf hh.2 hA aiA o undef (λk hk=>by rw[s1 k hk];show slot (pM (pM σ (c9 n) (.o (.row el ai (eD xs i j cs)))) (c9 n2) (.o .dead)) k=_;rw[jo,jo]) (λd ho=>⟨hd d ho, ?_, ?_⟩)
      ·rw[s2 d ho];trivial
      ·rw[s2 d ho];intro k hk;simp[cM]at hk
     ·simp at h
    ·simp at h
  ·simp at h
 ·simp at h
theorem Ud(hE:eB P E)(cf:Ok E σ w c)(dK:fC E σ a w c)(hd:∀d,o.dst=ah d->d<a.tmps.size){t:aF}{p x:dz}(ho:o.op= .store t p x)(h:(me E nm o).val σ=ah e):gT P E σ a w c o e.ws:=by
 simp only[me,ho]at h;obtain⟨ti,h1,h⟩:=Rd.bind_some h;obtain⟨pv,h2,h⟩:=Rd.bind_some h;obtain⟨xv,h3,h⟩:=Rd.bind_some h;have h1:=dW h1;obtain⟨ep,kp⟩:=iY dK h2;obtain⟨ex,kx⟩:=mr dK h3;cases xv with
 |v g ys=>
  obtain⟨h4,h⟩:=cR h;have h4:=aU h4;obtain⟨ws,h5,h⟩:=Rd.bind_some h;obtain rfl:=aJ h;have oU:=qj.cells ex;have HO:(a.eval x).cells.size=ti.ks.length:=by rw[oU.1,h4]
  have ky:∀b∈ys,jg σ b:=λb hb n hn=>kx n (bP.2 ⟨b,hb,hn⟩);obtain⟨_,_,_,_,lj,_⟩:=hE.info t ti h1;have exec:∀{b of:aF} {cur:dt bk},a.eval p= .pointer (ah (ad b of))->nW w b cur->of+(a.eval x).cells.size<=cur.size->(execOp a.eval o).run P w= .ok .skip (w.setRow b (ed cur of (a.eval x).cells.toList)):=by intro b of cur hp hb hf;unfold execOp;rw[ho];refine ZE ?_;rw[hp];exact JF w hE h1 HO hb hf oU.one
  have hkK:∀(b:aF) (new:dt bk),wB σ c b->∀b',c.K b'->(w.setRow b new).heap[b']? =w.heap[b']? :=by intro b new hb b' hk;exact setRow_other w b b' new (λe=>by subst e;exact cf.Jo hb hk)
  have h5:(Hu E pv ys).val σ=ah ws\/∃n i j,pv= .rp n i j/\zu n=ai/\(Ht E n i j ys).val σ=ah ws:=by
   cases pv with
   |rp n i j=>
    unfold Vt at h5;simp only at h5;cases hF:zu n with
    |true=>rw[hF,au]at h5;exact .inr ⟨n,i,j,rfl,hF,h5⟩
    |false=>rw[hF,ax]at h5;exact .inl h5
   |_=>exact .inl h5
  rcases h5 with h5|⟨n,i,j,rfl,hF,h5⟩
  rotate_left
  ·obtain⟨hpi,hpv⟩:=ep;exact OS cf dK hd hF hpi h5 oU (by rw[<-h4]at lj;exact lj) (λcur hb hf=>exec hpv hb hf)
  cases pv with
  |bp n j=>
   obtain⟨ob,hg,h5⟩:=Rd.bind_some h5;have hg:=dA hg;cases ob with
   |box xs=>
    obtain⟨h6,h5⟩:=cR h5;have h6:=cL h6;obtain rfl:=aJ h5;obtain⟨cur,hb,gf,hcv⟩:=cf.obj n _ hg;have vW:wB σ c (c.P n).blk:=⟨n,_,hg,rfl⟩
    have mH:j+(a.eval x).cells.size<=cur.size:=by rw[oU.1,gf];exact h6
    have aim:j+(a.eval x).cells.toList.length<=cur.size:=by rw[dR];exact mH
    have Di:=hkK (c.P n).blk (ed cur j (a.eval x).cells.toList) vW;refine tu cf dK hd hg (ob':= .box (iD xs j ys)) ?_ (λb hb=>hb) (λzs hz b hb=> ?_) (s:= .un) trivial (λn hn=>by simp[cM]at hn) (λb hb Qk=>setRow_other w _ b _ (λe=>Qk e)) (by simp[lH]) rfl rfl rfl (.inr ⟨exec ep hb mH,rfl⟩)
    ·have:=(fX.put (E:=E) (w:=w) (c:=c) ⟨gf,hcv⟩ oU h6)
     refine⟨_,hb.setRow (fa aim),this.1,λq b hq=> ?_⟩
     obtain⟨u,hu,hub⟩:=this.2 q b hq;exact⟨u,hu,hub.frame Di (λ_ h=>h) (λ_ _=>⟨rfl,rfl⟩)⟩
    ·cases hz;rcases Cr hb with hb|hb
     ·exact cf.kn n xs hg b hb
     ·exact ky b hb
   |_=>simp at h5
  |rp n i j=>
   obtain⟨ob,hg,h5⟩:=Rd.bind_some h5;have hg:=dA hg;cases ob with
   |row el AK xs=>
    obtain⟨te,h6,h5⟩:=Rd.bind_some h5;have h6:=dW h6;obtain⟨h7,h5⟩:=cR h5;obtain⟨⟨cs,w2⟩,h8,h5⟩:=Rd.bind_some h5;obtain rfl:=aJ h5;obtain⟨m1,m2,_,m3⟩:=B4 (E:=E) (w:=w) (c:=c) h7 h8;obtain⟨⟨t2,q1,gf,mK⟩,gd,gq⟩:=cf.obj n _ hg;obtain rfl:te=t2:=aJ (h6.symm.trans q1);obtain⟨hi,hpv⟩:=ep;have hlk:cs.length=((te.ks.drop j).take ys.length).length:=by rw[<-m1];simp
    have jY:j+cs.length<=te.ks.length:=by
     rw[eK,iz]at hlk;have:0<cs.length:=by rw[m2,h4];exact lj
     omega
    have hkd:cs.map CV.kd=(te.ks.drop j).take cs.length:=by rw[m1,m2]
    have mb:i<xs.length:=by rw[<-gd.n];exact hi
    have jz:(c.P n).nil=false:=by
     cases hn:(c.P n).nil with
     |false=>rfl
     |true=>have:=(gd.nil hn).1;subst this;simp at mb
    have vW:wB σ c (c.P n).blk:=⟨n,_,hg, .inl ⟨jz,rfl⟩⟩
    have Di:=λnew=>hkK (c.P n).blk new vW;have IX:=lk mK;have sF:=xV mK hkd jY mb;have Ci:=lk sF;have same:∀i' j',gh (eD xs i j cs) i' j'->gh xs i' j':=λi' j' hx=>(IX i' j').2 (by have:=(Ci i' j').1 hx;rwa[jR]at this);obtain⟨_,vals,hb⟩:=gd.pos hi;have I_:∀y∈xs,y.length=(c.P n).sz:=λy hy=>by rw[gf,<-mK y hy];simp
    have ark:=Di (ed vals ((c.P n).off+i*(c.P n).sz+j) (a.eval x).cells.toList);have hw:∀b,c.K b->(w.setRow (c.P n).blk (ed vals ((c.P n).off+i*(c.P n).sz+j) (a.eval x).cells.toList)).heap[b]? =w.heap[b]? :=ark;generalize Na:w.setRow (c.P n).blk (ed vals ((c.P n).off+i*(c.P n).sz+j) (a.eval x).cells.toList)=w' at hw;have rL:∀b,b≠(c.P n).blk->w'.heap[b]? =w.heap[b]? :=λb hb=>by rw[<-Na];exact setRow_other w _ b _ hb
    obtain⟨mH,AL⟩:=jh.put (R':=λi1 j1 u1 x1=>if AK=ai then XC E w' (c.G n) i1 j1 u1 x1 else c_ E w' c.K u1 x1) gd hb I_ (i:=i) (j:=j) (cs:=cs) (vs:=(a.eval x).cells.toList) hi (by rw[gf];exact jY) (by rw[dR,oU.1,m2])
     (λq y hq=>by
      obtain⟨r1,r2,r3⟩:=m3 _ oU q y hq;refine⟨PQ y,by rw[cX];exact r1, ?_⟩
      split
      ·exact uE r2 ⟨rfl,r3⟩
      ·exact kQ r2 ⟨rfl,r3⟩)
     (λi1 y1 j1 x1 u1 h1 h2 hr=>by
      cases AK with
      |true=>rw[bz rfl]at hr⊢;exact hr.frame (λhl hn=>rL _ ((gq rfl).out i1 j1 ⟨y1,x1,h1,h2,hl⟩ hn jz))
      |false=>rw[bH (by simp)]at hr⊢;exact hr.frame hw (λ_ h=>h))
    rw[Na]at AL;refine tu cf dK hd hg (ob':= .row el AK (eD xs i j cs)) ?_ ?_ (λzs hz=>by cases hz) (s:= .un) trivial (λn hn=>by simp[cM]at hn) (w':=w') (λb hb Qk=>rL b (λe=>Qk (.inl ⟨jz,e⟩))) (by rw[<-Na];simp[lH]) (by rw[<-Na];rfl) (by rw[<-Na];rfl) (by rw[<-Na];rfl) (.inr ⟨?_,rfl⟩)
    ·exact⟨⟨te,q1,gf,sF⟩,AL,λhx=>⟨λi1 j1 hh=>(gq hx).out i1 j1 (same i1 j1 hh),λi1 j1 i2 j2 h1 h2=>(gq hx).one i1 j1 i2 j2 (same i1 j1 h1) (same i2 j2 h2)⟩⟩
    ·rintro b (hb|⟨hx,i1,j1,hh,hn⟩)
     ·exact .inl hb
     ·exact .inr ⟨hx,i1,j1,same i1 j1 hh,hn⟩
    ·rw[<-Na];refine exec hpv hb ?_;rw[dR]at mH;exact mH
   |_=>simp at h5
  |ip n i j i2 j2=>
   obtain⟨ob,hg,h5⟩:=Rd.bind_some h5;have hg:=dA hg;cases ob with
   |row el AK xs=>
    cases AK with
    |false=>simp at h5
    |true=>
    obtain⟨te,h6,h5⟩:=Rd.bind_some h5;have h6:=dW h6;split at h5
    ·rename_i e2 Aa;obtain⟨t2,h7,h5⟩:=Rd.bind_some h5;have h7:=dW h7;obtain⟨h8,h5⟩:=cR h5;obtain⟨⟨cs,w2⟩,h9,h5⟩:=Rd.bind_some h5;obtain rfl:=aJ h5;have aiH:plain ((t2.ks.drop j2).take ys.length)=true:=bn.2 (λk hk=>bn.1 h8 k (kZ (k_ hk)));obtain⟨m1,m2,_,m3⟩:=B4 (E:=E) (w:=w) (c:=c) aiH h9;obtain⟨⟨hi,vg,hpv⟩,_⟩:=ep;obtain⟨⟨t1,q1,gf,mK⟩,gd,gq⟩:=cf.obj n _ hg;obtain rfl:te=t1:=aJ (h6.symm.trans q1);obtain⟨zs,y,t3,r1,r2,r3,r4,r5,r6,r7,_⟩:=Bi cf hg h6 Aa hi;obtain rfl:t2=t3:=aJ (h7.symm.trans r3);rw[fE r1 r2];simp only[jv];have hlk:cs.length=((t2.ks.drop j2).take ys.length).length:=by rw[<-m1];simp
     have jY:j2+cs.length<=t2.ks.length:=by
      rw[eK,iz]at hlk;have:0<cs.length:=by rw[m2,h4];exact lj
      omega
     have hkd:cs.map CV.kd=(t2.ks.drop j2).take cs.length:=by rw[m1,m2]
     have arq:i2<zs.length:=by rw[<-r7.n];exact vg
     have mb:i<xs.length:=(aT.1 r1).1;obtain⟨Cm,vals,hb⟩:=r7.pos vg;obtain⟨jz,pv,hpb⟩:=gd.pos hi;have DP:gh xs i j:=⟨y,_,r1,r2,rfl⟩
     have vW:wB σ c (c.G n i j).blk:=⟨n,_,hg, .inr ⟨rfl,i,j,DP,Cm,rfl⟩⟩
     have hw:=hkK (c.G n i j).blk (ed vals ((c.G n i j).off+i2*(c.G n i j).sz+j2) (a.eval x).cells.toList) vW;have K2:∀y∈zs,y.length=(c.G n i j).sz:=λy hy=>by rw[r5,<-r6 y hy];simp
     obtain⟨mH,AL⟩:=jh.put (R':=λ_ _ u1 x1=>Sc u1 x1) r7 hb K2 (i:=i2) (j:=j2) (cs:=cs) (vs:=(a.eval x).cells.toList) vg (by rw[r5];exact jY) (by rw[dR,oU.1,m2])
      (λq y hq=>⟨PQ y,by rw[cX];exact(m3 _ oU q y hq).1,rfl,(m3 _ oU q y hq).2.2⟩) (λ_ _ _ _ _ _ _ hr=>hr)
     generalize Na:w.setRow (c.G n i j).blk (ed vals ((c.G n i j).off+i2*(c.G n i j).sz+j2) (a.eval x).cells.toList)=w' at hw AL;have rL:∀b,b≠(c.G n i j).blk->w'.heap[b]? =w.heap[b]? :=λb hb=>by rw[<-Na];exact setRow_other w _ b _ hb
     have hjk:j<te.ks.length:=(aT.1 Aa).1;have aeH:[CV.l e2 (eD zs i2 j2 cs)].map CV.kd=(te.ks.drop j).take [CV.l e2 (eD zs i2 j2 cs)].length:=by rw[bA,List.take_one,List.head?_drop,Aa];rfl
     have sF:=xV (i:=i) (j:=j) (cs:=[CV.l e2 (eD zs i2 j2 cs)]) mK aeH (by simp;omega) mb;have IX:=lk mK;have Ci:=lk sF;have same:∀i' j',gh (eD xs i j [CV.l e2 (eD zs i2 j2 cs)]) i' j'->gh xs i' j':=λi' j' hx=>(IX i' j').2 (by have:=(Ci i' j').1 hx;rwa[jR]at this);have aeP:(c.P n).blk≠(c.G n i j).blk:=λe=>(gq rfl).out i j DP Cm jz e.symm;have oK:jh w' (c.P n) (eD xs i j [CV.l e2 (eD zs i2 j2 cs)]) (λi1 j1 u1 x1=>if ai=ai then XC E w' (c.G n) i1 j1 u1 x1 else c_ E w' c.K u1 x1):=by
      obtain⟨vs,k1,k2,k3,k4,k5⟩:=gd.mem jz;refine⟨by rw[jR];exact gd.n,λhn=>(by rw[jz]at hn;cases hn),λ_=>⟨vs,k1.frame (rL _ aeP),k2,k3,k4,λi1 y1 j1 x1 g1 g2=> ?_⟩⟩
      rw[xT r1]at g1;simp only[if_true]at k5⊢;by_cases IW:i1=i
      ·subst IW;rw[bz rfl]at g1;cases g1;have I_:y.length=te.ks.length:=by rw[<-mK y (aR r1)];simp
       rw[pA (by simp;omega)]at g2;by_cases hq:j<=j1/\j1<j+[CV.l e2 (eD zs i2 j2 cs)].length
       ·rw[bz hq]at g2;have:j1=j:=by simp at hq;omega
        subst this;simp at g2;subst g2;obtain⟨u,hu,hr⟩:=k5 _ _ _ _ r1 r2;refine⟨u,hu,hr.1,t2,r3,r4,r5,xV r6 hkd jY arq,AL⟩
       ·rw[bH hq]at g2;obtain⟨u,hu,hr⟩:=k5 _ _ _ _ r1 g2;refine⟨u,hu,hr.frame (λhl hn=>rL _ (λe=> ?_))⟩
        have:=((gq rfl).one _ _ _ _ ⟨y,x1,r1,g2,hl⟩ DP hn Cm e).2;simp at hq;omega
      ·rw[bH IW]at g1;obtain⟨u,hu,hr⟩:=k5 _ _ _ _ g1 g2;exact⟨u,hu,hr.frame (λhl hn=>rL _ (λe=>IW ((gq rfl).one _ _ _ _ ⟨y1,x1,g1,g2,hl⟩ DP hn Cm e).1))⟩
     refine tu cf dK hd hg (ob':= .row el ai (eD xs i j [CV.l e2 (eD zs i2 j2 cs)])) ?_ ?_ (λzs hz=>by cases hz) (s:= .un) trivial (λn hn=>by simp[cM]at hn) (w':=w') (λb hb Qk=>rL b (λe=>Qk (.inr ⟨rfl,i,j,DP,Cm,e⟩))) (by rw[<-Na];simp[lH]) (by rw[<-Na];rfl) (by rw[<-Na];rfl) (by rw[<-Na];rfl) (.inr ⟨?_,rfl⟩)
     ·exact⟨⟨te,q1,gf,sF⟩,oK,λhx=>⟨λi1 j1 hh=>(gq hx).out i1 j1 (same i1 j1 hh),λi1 j1 i2 j2 h1 h2=>(gq hx).one i1 j1 i2 j2 (same i1 j1 h1) (same i2 j2 h2)⟩⟩
     ·rintro b (hb|⟨hx,i1,j1,hh,hn⟩)
      ·exact .inl hb
      ·exact .inr ⟨hx,i1,j1,same i1 j1 hh,hn⟩
     ·rw[<-Na];refine exec hpv hb ?_;rw[dR]at mH;exact mH
    ·simp at h5
   |_=>simp at h5
  |_=>simp[Hu]at h5
 |j_=>simp at h
 |un=>simp at h
end
end Go.FG

namespace Go.FG
theorem PC{ks:aA Ck}(h:plain ks=ai):Lf ks=true:=by refine bn.2 (λk hk=> ?_);have:=bn.1 h k hk;cases k<;>first|rfl|exact this
theorem tK{xs:aQ}{ks:aA Ck}(h:∀y∈xs,y.map CV.kd=ks)(hp:plain ks=ai){i j:aF}:¬gh xs i j:=by intro hx;obtain⟨_,e,hk⟩:=(lk h i j).1 hx;have:=bn.1 hp _ (aR hk);cases this
theorem Ir{xs z:aQ}{lo hi:aF}(h1:lo<=hi)(h2:hi<=xs.length)(hz:z.length=hi-lo)(i:aF):(xs.take lo++z++xs.drop hi)[i]? =if lo<=i/\i<hi then z[i-lo]? else xs[i]? :=by
 by_cases a:i<lo
 ·rw[bH (by omega),cu,dH (by simp;omega),d_,bz a]
 ·by_cases b:i<hi
  ·rw[bz ⟨by omega,b⟩,cu,da (by simp;omega),dH (by simp;omega)];congr 1;simp;omega
  ·rw[bH (by omega),cu,da (by simp;omega),da (by simp;omega),dQ];congr 1;simp;omega
section
variable {P:c5} {E:fO} {σ:St} {a:Act} {w:bM} {c:e9} {o:fA} {nm:aF} {e:sR}
theorem PM{t ty el:aF}{z:bk}{inf:Kb}(hu:P.underlying t=ah (.slice el))(hi:P.info? el=ah inf)(hz:inf.zero=ah z){b of n cp:aF}{cur:dt bk}(hn:0<n)(hb:nW w b cur)(hf:of+n*z.cells.size<=cur.size)(h1:∀u∈z.cells.toList,u.oneCell'=ai):
  (oO #[t] ty #[.slice (ah (ad b of)) n cp]).run P w= .ok (.tuple #[]) (w.setRow b (ed cur of (madeCells z.cells (n*z.cells.size)).toList)):=by
 have KX:=nJ (P:=P) w (o:=of) (vs:=(madeCells z.cells (n*z.cells.size)).toList) hb (by simpa [size_madeCells]using hf) (λv hv=>by
  unfold madeCells at hv;simp only[Ak,cU]at hv;obtain⟨q,hq,rfl⟩:=hv;have hq:q<n*z.cells.size:=by simpa using hq
  have hp:0<z.cells.size:=by rcases De z.cells.size with h|h;(rw[h]at hq;simp at hq);exact h
  have:q%z.cells.size<z.cells.size:=Df _ hp;rw[getElem!_pos z.cells _ this];exact h1 _ (by simp))
 have hz':(fL z.cells n)=madeCells z.cells (n*z.cells.size):=rfl;cases n with
 |zero=>omega
 |succ n=>simp[oO,run_underlying hu,zeroValue,typeInfo,hi,hz,hz',KX]
theorem CR{t ty el:aF}(hu:P.underlying t=ah (.slice el)){A:az Addr}{cp:aF}:(oO #[t] ty #[.slice A 0 cp]).run P w= .ok (.tuple #[]) w:=by cases A<;>simp[oO,run_underlying hu]
theorem T_(hE:eB P E)(cf:Ok E σ w c)(dK:fC E σ a w c)(hd:∀d,o.dst=ah d->d<a.tmps.size){cl:Call}(ho:o.op= .call cl)(hb:cl.callee= .builtin .clear)(h:(me E nm o).val σ=ah e):gT P E σ a w c o e.ws:=by
 simp only[me,ho,hb]at h;split at h
 ·rename_i x hx;split at h
  ·rename_i t ht;obtain⟨k,hk,h⟩:=Rd.bind_some h;cases k with
   |l el=>
    obtain⟨v,h1,h⟩:=Rd.bind_some h;obtain⟨ws,h2,h⟩:=Rd.bind_some h;obtain rfl:=aJ h;obtain⟨ev,kv⟩:=iY dK h1;have hu:=kL hE hk;have hx:=nD hx;have ht:=nD ht;have exec:∀{w'},(oO #[t] o.type #[a.eval x]).run P w= .ok (.tuple #[]) w'->(execOp a.eval o).run P w= .ok (.value (.tuple #[])) w':=by intro w' hr;obtain⟨cs,HO⟩:=mS (P:=P) (a:=a) (w:=w) ho hb;rw[HO,hx,ht];simp only[builtin,Du,fB,BI];exact iW hr
    have sv:ji E w c (.j_ []) (.tuple #[]):=⟨#[],rfl,rfl,λj agg xs hj=>by simp at hj⟩
    have aj:∀A cp,a.eval x= .slice A 0 cp->(execOp a.eval o).run P w= .ok (.value (.tuple #[])) w:=λA cp hv=>exec (by rw[hv];exact CR hu);have main:∀(n:aF) (ex:aW) (xs:aQ) (lo hi:aF) (te:TI),σ (c9 n)= .o (.row el ex xs)->E.ty el=ah te->plain te.ks=ai->wO (c.P n) lo hi (a.eval x)->gT P E σ a w c o ([(c9 n, .o (.row el ex (xs.take lo++aP te.ks (hi-lo)++xs.drop hi)))]++dw o (.j_ [])):=by
     intro n ex xs lo hi te hg KZ sO hv;obtain⟨⟨t2,q1,gf,mK⟩,gd,gq⟩:=cf.obj n _ hg;obtain rfl:te=t2:=aJ (KZ.symm.trans q1);obtain⟨v1,v2,v3,v4⟩:=hv;have hle:hi<=xs.length:=by rw[<-gd.n];exact v2
     have zr:=PC sO;have K2:(aP te.ks (hi-lo)).length=hi-lo:=by simp[aP]
     by_cases hz:hi-lo=0
     ·have aiL:xs.take lo++aP te.ks (hi-lo)++xs.drop hi=xs:=by
       have:hi=lo:=by omega
       subst this;simp[aP]
      rw[aiL];have hr:(execOp a.eval o).run P w= .ok (.value (.tuple #[])) w:=by
       cases hq:(c.P n).nil with
       |true=>exact aj _ _ (v3 hq)
       |false=>
        rcases v4 hq with ⟨_,h⟩|⟨_,oo,_,h⟩
        ·rw[hz]at h;exact aj _ _ h
        ·exact aj _ _ h
      exact tu cf dK hd hg (cf.obj n _ hg) (λb hb=>hb) (λzs hz=>by cases hz) sv (λn hn=>by simp[cM]at hn) (λb _ _=>rfl) (cD _) rfl rfl rfl (.inl hr)
     ·have jz:(c.P n).nil=false:=by
       cases hq:(c.P n).nil with
       |false=>rfl
       |true=>have:=(gd.nil hq).1;subst this;simp at hle;omega
      obtain⟨vals,k1,k2,k3,k4,k5⟩:=gd.mem jz;rcases v4 jz with ⟨u1,hv⟩|⟨u1,oo,_,hv⟩
      ·obtain⟨inf,mA,ayZ,_,_,JY⟩:=hE.info el te KZ;obtain⟨z,DV,hz3,_⟩:=JY zr;have Qo:z.cells.size=te.ks.length:=by rw[hz3];simp
       have hbd:(c.P n).off+lo*(c.P n).sz+(hi-lo)*z.cells.size<=vals.size:=by rw[Qo,<-gf,lZ,<-dp];have:(lo+(hi-lo))*(c.P n).sz<=(c.P n).cap*(c.P n).sz:=b8 _ (by omega);omega
       have hr:=PM (P:=P) (w:=w) (ty:=o.type) (of:=(c.P n).off+lo*(c.P n).sz) (n:=hi-lo) (cp:=(c.P n).cap-lo) hu mA DV (by omega) k1 hbd (by rw[hz3];intro u sg;obtain⟨k,vh,rfl⟩:=cU.1 (by simpa using sg:u∈te.ks.map iJ);cases k<;>rfl);rw[<-hv]at hr;have vW:wB σ c (c.P n).blk:=⟨n,_,hg, .inl ⟨jz,rfl⟩⟩
       rw[Qo,hz3]at hr;have hml:(madeCells (te.ks.map iJ).toArray ((hi-lo)*te.ks.length)).toList.length=(hi-lo)*te.ks.length:=by simp[size_madeCells]
       have aey:(c.P n).off+lo*(c.P n).sz+(madeCells (te.ks.map iJ).toArray ((hi-lo)*te.ks.length)).toList.length<=vals.size:=by rw[hml,<-Qo];exact hbd
       have EJ:=k1.setRow (fa aey);have ain:=gm aey;generalize zq:ed vals ((c.P n).off+lo*(c.P n).sz) (madeCells (te.ks.map iJ).toArray ((hi-lo)*te.ks.length)).toList=new at hr EJ ain;have arG:new.size=vals.size:=by rw[<-zq];exact fa aey
       have rL:∀b,b≠(c.P n).blk->(w.setRow (c.P n).blk new).heap[b]? =w.heap[b]? :=λb hb=>setRow_other w _ b _ hb;have hw:∀b,c.K b->(w.setRow (c.P n).blk new).heap[b]? =w.heap[b]? :=λb hk=>rL b (λe=>by subst e;exact cf.Jo vW hk);have sF:∀y∈xs.take lo++aP te.ks (hi-lo)++xs.drop hi,y.map CV.kd=te.ks:=by
        intro y hy;rw[ba,ba]at hy;rcases hy with (hy|hy)|hy
        ·exact mK y (k_ hy)
        ·exact yr zr _ y hy
        ·exact mK y (kZ hy)
       refine tu cf dK hd hg (ob':= .row el ex (xs.take lo++aP te.ks (hi-lo)++xs.drop hi)) ?_ ?_ (λzs hz=>by cases hz) (w':=w.setRow (c.P n).blk new) ⟨#[],rfl,rfl,λj agg xs hj=>by simp at hj⟩ (λn hn=>by simp[cM]at hn) (λb _ Qk=>rL b (λe=>Qk (.inl ⟨jz,e⟩))) (by simp[lH]) rfl rfl rfl (.inl (exec hr))
       ·refine⟨⟨te,KZ,gf,sF⟩,⟨?_,λhn=>(by rw[jz]at hn;cases hn),λ_=>⟨new,EJ,k2,k3,by rw[arG];exact k4,λi y j x mb hj=> ?_⟩⟩,λ_=>⟨λi j hh=>cJ hh (tK sF sO),λi j i' j' hh=>cJ hh (tK sF sO)⟩⟩
        ·rw[gd.n];simp[aP];omega
        ·have hl:=iq sO (sF y (aR mb)) hj;have jY:j<te.ks.length:=by rw[<-sF y (aR mb),bU];exact(aT.1 hj).1
         have toR:∀u,Sc u x->(if ex=ai then XC E (w.setRow (c.P n).blk new) (c.G n) i j u x else c_ E (w.setRow (c.P n).blk new) c.K u x):=by
          intro u hu;split
          ·exact uE hl hu
          ·exact kQ hl hu
         rw[Ir v1 hle K2]at mb;rw[ain,hml];by_cases hq:lo<=i/\i<hi
         ·rw[bz hq]at mb;obtain⟨aiq,k,hk1,rfl⟩:=uH mb hj;have h2:(i-lo+1)*te.ks.length<=(hi-lo)*te.ks.length:=b8 _ aiq;have h3:i*te.ks.length=lo*te.ks.length+(i-lo)*te.ks.length:=by rw[<-dp];congr 1;omega
          rw[dp]at h2;rw[gf,bz (by omega)];refine⟨iJ k, ?_,toR _ ?_⟩
          ·have:=lT (n:=hi-lo) aiq hk1;rw[cX,<-this];congr 1;omega
          ·have Xv:=bn.1 sO k (aR hk1);cases k<;>first|exact⟨rfl,trivial⟩|exact⟨rfl,bI _⟩|cases Xv
         ·rw[bH hq]at mb;obtain⟨u,sg,DR⟩:=k5 i y j x mb hj;refine⟨u, ?_,toR u ?_⟩
          ·rw[bH ?_];exact sg;rw[gf];by_cases Cj:i<lo
           ·have:(i+1)*te.ks.length<=lo*te.ks.length:=b8 _ Cj;rw[dp]at this;omega
           ·have:hi*te.ks.length<=i*te.ks.length:=b8 _ (by omega);have h3:hi*te.ks.length=lo*te.ks.length+(hi-lo)*te.ks.length:=by rw[<-dp];congr 1;omega
            omega
          ·split at DR
           ·exact uG DR hl
           ·exact pr DR hl
       ·rintro b (hb|⟨_,i,j,hh,_⟩)
        ·exact .inl hb
        ·exact cJ hh (tK sF sO)
      ·omega
    unfold R_ at h2;cases v with
    |nl=>obtain rfl:=aJ h2;exact gD cf dK hd sv (λn hn=>by simp[cM]at hn) (aj _ _ ev)
    |own n=>
     obtain⟨ob,hg,h2⟩:=Rd.bind_some h2;have hg:=dA hg;cases ob with
     |row e' ex xs=>obtain⟨te,q1,h2⟩:=Rd.bind_some h2;obtain⟨q2,h2⟩:=cR h2;obtain rfl:=aJ h2;simp only[aL]at q2;have:=aU q2.1;subst this;have ev:a.eval x=lS (c.P n):=ev;have:=main n ex xs 0 xs.length te hg (dW q1) q2.2 (by rw[ev];exact wa cf hg);simpa using this
     |_=>simp at h2
    |vw n lo hi=>
     obtain⟨ob,hg,h2⟩:=Rd.bind_some h2;have hg:=dA hg;cases ob with
     |row e' ex xs=>obtain⟨te,q1,h2⟩:=Rd.bind_some h2;obtain⟨q2,h2⟩:=cR h2;obtain rfl:=aJ h2;simp only[aL]at q2;have:=aU q2.1;subst this;exact main n ex xs lo hi te hg (dW q1) q2.2 ev
     |_=>simp at h2
    |_=>simp at h2
   |_=>simp at h
  ·simp at h
 ·simp at h
end
end Go.FG

namespace Go.FG
def kg(D:aA (aF×Obj)):aA (aF×eQ):=D.map λd=>(c9 d.1, .o d.2)
def uK(D:aA (aF×Obj))(m:aF):Prop:=∃x,(m,x)∈D
theorem ZD:∀(D:aA (aF×Obj)) (σ:St),(∀m,(wr σ (kg D) (c9 m)=σ (c9 m)/\¬uK D m)\/∃x,(m,x)∈D/\wr σ (kg D) (c9 m)= .o x)/\∀m,slot (wr σ (kg D)) m=slot σ m:=by
 intro D;induction D with
 |nil=>intro σ;exact⟨λm=> .inl ⟨rfl,λ⟨x,hx⟩=>by cases hx⟩,λm=>rfl⟩
 |cons d D ih=>
  intro σ;obtain⟨n,x⟩:=d;obtain⟨h1,h2⟩:=ih (pM σ (c9 n) (.o x));refine⟨λm=> ?_,λm=> ?_⟩
  ·show(wr (pM σ (c9 n) (.o x)) (kg D) (c9 m)=_/\_)\/∃y,_/\wr (pM σ (c9 n) (.o x)) (kg D) (c9 m)=_;rcases h1 m with ⟨q1,q2⟩|⟨y,q1,q2⟩
   ·rw[pZ]at q1;by_cases hm:m=n
    ·subst hm;exact .inr ⟨x,by simp,by rw[q1,bz rfl]⟩
    ·refine .inl ⟨by rw[q1,bH hm],λ⟨y,hy⟩=> ?_⟩;rcases cy.1 hy with hy|hy
     ·cases hy;exact hm rfl
     ·exact q2 ⟨y,hy⟩
   ·exact .inr ⟨y,c7 _ q1,q2⟩
  ·show slot (wr (pM σ (c9 n) (.o x)) (kg D)) m=_;rw[h2,jo]
section
variable {P:c5} {E:fO} {σ:St} {a:Act} {w:bM} {c:e9} {o:fA} {nm:aF} {e:sR}
theorem Ip(cf:Ok E σ w c)(dK:fC E σ a w c){o:fA}(hd:∀d,o.dst=ah d->d<a.tmps.size){D:aA (aF×Obj)}{s:SV}{v:bk}{w':bM}{c':e9}
  (hA:jC σ c c')
  (mV:∀n x,(n,x)∈D->pP E w' c' n x)
  (pT:∀n x b,(n,x)∈D->fJ c' n x b->(j5 (uK D) σ c b\/w.heap.size<=b)/\¬c'.K b)
  (SK:∀n x n' x' b,(n,x)∈D->(n',x')∈D->fJ c' n x b->fJ c' n' x' b->n=n')
  (IY:∀n xs,(n,Obj.box xs)∈D->∀a∈xs,∀m∈bQ a,σ (c9 m)≠ .jZ\/uK D m)
  (hK:∀b,c.K b->c'.K b) (V8:∀b,c'.K b->c.K b\/j5 (uK D) σ c b\/w.heap.size<=b) (GQ:∀b,c'.K b->b<w'.heap.size)
  (hW:∀b,b<w.heap.size->¬j5 (uK D) σ c b->w'.heap[b]? =w.heap[b]?) (gf:w.heap.size<=w'.heap.size) (O6:w'.os=w.os) (XA:w'.tape=w.tape) (Xu:w'.output=w.output)
  (yx:ji E w' c' s v) (AO:∀n∈cM s,σ (c9 n)≠ .jZ\/uK D n):
  Ok E (wr σ (kg D++dw o s)) w' c'/\fC E (wr σ (kg D++dw o s)) (a.put o.dst v) w' c'/\ov σ c w (wr σ (kg D++dw o s)) c' w':=by
 rw[PZ];obtain⟨d1,d2⟩:=ZD D σ;let σ1:=wr σ (kg D);obtain⟨s1,s2,s3⟩:=rY σ1 o s;have key:∀m,(wr σ1 (dw o s) (c9 m)=σ (c9 m)/\¬uK D m)\/∃x,(m,x)∈D/\wr σ1 (dw o s) (c9 m)= .o x:=λm=>by rw[s3];exact d1 m
 have iw:∀m,(σ (c9 m)≠ .jZ\/uK D m)->wr σ1 (dw o s) (c9 m)≠ .jZ:=by
  intro m hm;rcases key m with ⟨h1,h2⟩|⟨x,_,h2⟩
  ·rw[h1];exact hm.resolve_right h2
  ·rw[h2];simp
 have get:∀m x,uK D m->wr σ1 (dw o s) (c9 m)= .o x->(m,x)∈D:=by
  intro m x hm hx;rcases key m with ⟨_,h2⟩|⟨y,h1,h2⟩
  ·exact cJ hm h2
  ·rw[h2]at hx;cases hx;exact h1
 have hh:=cf.change (σ':=wr σ1 (dw o s)) (w':=w') (c':=c') (uK D) (λm hm=>(key m).elim (λh=>h.1) (λ⟨x,h1,_⟩=>cJ ⟨x,h1⟩ hm)) (λm hm=>iw m (.inl hm)) hA hW gf hK V8 GQ
  (λm x hm ho=>mV m x (get m x hm ho)) (λm x b hm ho hf=>pT m x b (get m x hm ho) hf) (λm x m' x' b hm xA ho vi hf ve=>SK m x m' x' b (get m x hm ho) (get m' x' xA vi) hf ve)
  (λm xs hm ho y hy n kJ=>iw n (IY m xs (get m _ hm ho) y hy n kJ)) O6 XA Xu
 refine⟨hh.1, ?_,hh.2⟩
 refine dK.change cf hh.2 hA (λm hm=>iw m (.inl hm)) o v (λn kJ=>by rw[s1 n kJ];exact d2 n) (λd ho=>⟨hd d ho, ?_, ?_⟩)
 ·rw[s2 d ho];exact yx
 ·rw[s2 d ho];intro n kJ;exact iw n (AO n kJ)
theorem KL(cf:Ok E σ w c)(dK:fC E σ a w c){o:fA}(hd:∀d,o.dst=ah d->d<a.tmps.size){D:aA (aF×Obj)}{s:SV}{v:bk}{w':bM}{c':e9}
  (hA:jC σ c c')
  (mV:∀n x,(n,x)∈D->pP E w' c' n x)
  (pT:∀n x b,(n,x)∈D->fJ c' n x b->(j5 (uK D) σ c b\/w.heap.size<=b)/\¬c'.K b)
  (SK:∀n x n' x' b,(n,x)∈D->(n',x')∈D->fJ c' n x b->fJ c' n' x' b->n=n')
  (IY:∀n xs,(n,Obj.box xs)∈D->∀a∈xs,∀m∈bQ a,σ (c9 m)≠ .jZ\/uK D m)
  (hK:∀b,c.K b->c'.K b) (V8:∀b,c'.K b->c.K b\/j5 (uK D) σ c b\/w.heap.size<=b) (GQ:∀b,c'.K b->b<w'.heap.size)
  (hW:∀b,b<w.heap.size->¬j5 (uK D) σ c b->w'.heap[b]? =w.heap[b]?) (gf:w.heap.size<=w'.heap.size) (O6:w'.os=w.os) (XA:w'.tape=w.tape) (Xu:w'.output=w.output)
  (yx:ji E w' c' s v) (AO:∀n∈cM s,σ (c9 n)≠ .jZ\/uK D n)
  (hr:(execOp a.eval o).run P w= .ok (.value v) w'):gT P E σ a w c o (kg D++dw o s):=by intro K Q hQ;obtain⟨h1,h2,h3⟩:=Ip cf dK hd hA mV pT SK IY hK V8 GQ hW gf O6 XA Xu yx AO;exact yp hr (hQ v w' c' h1 h2 h3 hA.w)
def Bu(σ:St)(c:e9)(m:az aF)(u:bk):CV->Prop
 | .l e ys=>(m=aj/\ys=[]/\u= .slice aj 0 0)\/∃nm,m=ah nm/\u=lS (c.P nm)/\σ (c9 nm)= .o (.row e ai ys)
 |x=>Sc u x
def Ey(L:aA aF):aA (aF×Obj):=L.map λn=>(n, .dead)
theorem B3(L:aA aF):oq L=kg (Ey L):=by unfold oq kg Ey;rw[ml];rfl
theorem W8{k:Ck}{x:AV}{cv:CV}{ws:aA (aF×eQ)}(h:(Iy ai k x).val σ=ah (cv,ws)):
  cv.kd=k/\∃m:az aF,ws=oq m.toList/\(∀nm,m=ah nm->∃ob,σ (c9 nm)= .o ob)/\∀u,eG E w c x u->Bu σ c m u cv:=by
 have pl:plain [k]=ai->cv.kd=k/\∃m:az aF,ws=oq m.toList/\(∀nm,m=ah nm->∃ob,σ (c9 nm)= .o ob)/\∀u,eG E w c x u->Bu σ c m u cv:=by
  intro hp;have kd1:cv.kd=k/\ws=[]:=by
   cases k<;>cases x<;>simp[Iy,plain]at h hp<;>first
    |(obtain⟨rfl,rfl⟩:=h;exact⟨rfl,rfl⟩)
    |(split at h<;>simp at h;rename_i hk;subst hk;obtain⟨rfl,rfl⟩:=h;exact⟨rfl,rfl⟩)
  refine⟨kd1.1,aj,kd1.2,λnm h=>(by cases h),λu hu=> ?_⟩
  obtain⟨_,h2,h3,_⟩:=zk hp h hu;cases cv<;>first|exact h2|simp[ur]at h3
 cases k with
 |i=>exact pl rfl
 |b=>exact pl rfl
 |s=>exact pl rfl
 |o=>cases x<;>simp[Iy]at h
 |l e=>
  cases x with
  |nl=>obtain⟨rfl,rfl⟩:=bW (aJ h);exact⟨rfl,aj,rfl,λnm h=>(by cases h),λu hu=> .inl ⟨rfl,rfl,hu⟩⟩
  |sh e' xs=>simp[Iy]at h
  |own n=>
   obtain⟨ob,hg,h⟩:=Rd.bind_some h;have hg:=dA hg;cases ob with
   |row e' uo xs=>obtain⟨h1,h⟩:=cR h;obtain⟨rfl,rfl⟩:=bW (aJ h);simp only[aL]at h1;have:=aU h1.1;subst this;obtain rfl:=h1.2;exact⟨rfl,ah n,rfl,λnm h=>(by cases h;exact⟨_,hg⟩),λu hu=> .inr ⟨n,rfl,hu,hg⟩⟩
   |fQ=>simp at h
   |_=>simp at h
  |_=>simp[Iy]at h
theorem Sf:∀{ks:aA Ck} {xs:aA AV} {cs:aA CV} {ws:aA (aF×eQ)} (h:(zl ai ks xs).val σ=ah (cs,ws)),cs.map CV.kd=ks/\xs.length=ks.length/\∃(L:aA aF) (M:aF->az aF),ws=oq L/\
  (∀nm∈L,∃ob,σ (c9 nm)= .o ob)/\(∀j nm,M j=ah nm->nm∈L)/\(L.Nodup->∀i j nm,M i=ah nm->M j=ah nm->i=j)/\
  ∀(vals:dt bk),fX E w c vals xs->∀(q:aF) (x:CV),cs[q]? =ah x->∃u:bk,vals[q]? =ah u/\Bu σ c (M q) u x:=by
 intro ks;induction ks with
 |nil=>
  intro xs cs ws h;cases xs with
  |nil=>obtain⟨rfl,rfl⟩:=bW (aJ h);exact⟨rfl,rfl,[],λ_=>aj,rfl,λnm h=>(by cases h),λj nm h=>(by cases h),λ_ i j nm h=>(by cases h),λ_ _ q x hq=>by simp at hq⟩
  |cons=>simp[zl]at h
 |cons k ks ih=>
  intro xs cs ws h;cases xs with
  |nil=>simp[zl]at h
  |cons x xs=>
   obtain⟨⟨cv,w1⟩,h1,h⟩:=Rd.bind_some h;obtain⟨⟨cr,w2⟩,h2,h⟩:=Rd.bind_some h;obtain⟨rfl,rfl⟩:=bW (aJ h);obtain⟨e1,m,rfl,e2,e3⟩:=W8 (E:=E) (w:=w) (c:=c) h1;obtain⟨i1,i2,L,M,rfl,i4,i5,i6,i7⟩:=ih h2;refine⟨by simp[e1,i1],by simp[i2],m.toList++L,λj=>match j with|0=>m|j+1=>M j,by simp[oq], ?_, ?_, ?_, ?_⟩
   ·intro nm hnm;rcases ba.1 hnm with h|h
    ·exact e2 nm (by simpa using h)
    ·exact i4 nm h
   ·intro j nm hj;cases j with
    |zero=>exact bN _ (by simpa using hj)
    |succ j=>exact bO _ (i5 j nm hj)
   ·intro I5 i j nm hi hj;obtain⟨n1,n2,n3⟩:=eL.1 I5;cases i with
    |zero=>
     cases j with
     |zero=>rfl
     |succ j=>exact cJ rfl (n3 nm (by simpa using hi) nm (i5 j nm hj))
    |succ i=>
     cases j with
     |zero=>exact cJ rfl (n3 nm (by simpa using hj) nm (i5 i nm hi))
     |succ j=>rw[i6 n2 i j nm hi hj]
   ·intro vals hv q y hq;cases q with
    |zero=>cases hq;obtain⟨u,hu,ha⟩:=hv.2 0 x rfl;exact⟨u,hu,e3 u ha⟩
    |succ q=>
     have Nd:fX E w c (vals.extract 1 vals.size) xs:=by
      refine⟨by simp;have:=hv.1;simp at this;omega,λj b hj=> ?_⟩
      obtain⟨u,hu,hb⟩:=hv.2 (j+1) b hj;refine⟨u, ?_,hb⟩
      have:=(dU.1 hu).1;rw[ea,bz (by omega),iZ];exact hu
     obtain⟨u,r1,r2⟩:=i7 _ Nd q y hq;refine⟨u, ?_,r2⟩
     rw[ea]at r1;split at r1
     ·rw[iZ];exact r1
     ·cases r1
theorem Kz{k:Ck}{x:AV}{cv:CV}{ws:aA (aF×eQ)}(cf:Ok E σ w c)(h:(Iy ak k x).val σ=ah (cv,ws)):cv.kd=k/\ws=[]/\∀u,eG E w c x u->c_ E w c.K u cv:=by
 have pl:plain [k]=ai->cv.kd=k/\ws=[]/\∀u,eG E w c x u->c_ E w c.K u cv:=by
  intro hp;have kd1:cv.kd=k/\ws=[]:=by
   cases k<;>cases x<;>simp[Iy,plain]at h hp<;>first
    |(obtain⟨rfl,rfl⟩:=h;exact⟨rfl,rfl⟩)
    |(split at h<;>simp at h;rename_i hk;subst hk;obtain⟨rfl,rfl⟩:=h;exact⟨rfl,rfl⟩)
  refine⟨kd1.1,kd1.2,λu hu=> ?_⟩
  obtain⟨_,h2,h3,_⟩:=zk hp h hu;exact kQ h3 h2
 cases k with
 |i=>exact pl rfl
 |b=>exact pl rfl
 |s=>exact pl rfl
 |o=>cases x<;>simp[Iy]at h
 |l e=>
  cases x with
  |nl=>obtain⟨rfl,rfl⟩:=bW (aJ h);exact⟨rfl,rfl,λu hu=>by rw[show u=_ from hu];exact .nl _ _ _⟩
  |sh e' xs=>obtain⟨h1,h⟩:=cR h;obtain⟨rfl,rfl⟩:=bW (aJ h);simp only[aL]at h1;have:=aU h1.1;subst this;exact⟨rfl,rfl,λu hu=>hu⟩
  |own n=>
   obtain⟨ob,hg,h⟩:=Rd.bind_some h;have hg:=dA hg;cases ob with
   |row e' uo xs=>obtain⟨h1,h⟩:=cR h;simp at h
   |fQ e' xs=>
    obtain⟨h1,h⟩:=cR h;obtain⟨rfl,rfl⟩:=bW (aJ h);simp only[aL]at h1;have:=aU h1.1;subst this;refine⟨rfl,rfl,λu hu=> ?_⟩
    have hu:u=lS (c.P n):=hu;rw[hu];exact(cf.obj n _ hg).1
   |_=>simp at h
  |_=>simp[Iy]at h
theorem Iz(cf:Ok E σ w c):∀{ks:aA Ck} {xs:aA AV} {cs:aA CV} {ws:aA (aF×eQ)} (h:(zl ak ks xs).val σ=ah (cs,ws)),cs.map CV.kd=ks/\xs.length=ks.length/\ws=[]/\
  ∀(vals:dt bk),fX E w c vals xs->∀(q:aF) (x:CV),cs[q]? =ah x->∃u:bk,vals[q]? =ah u/\c_ E w c.K u x:=by
 intro ks;induction ks with
 |nil=>
  intro xs cs ws h;cases xs with
  |nil=>obtain⟨rfl,rfl⟩:=bW (aJ h);exact⟨rfl,rfl,rfl,λ_ _ q x hq=>by simp at hq⟩
  |cons=>simp[zl]at h
 |cons k ks ih=>
  intro xs cs ws h;cases xs with
  |nil=>simp[zl]at h
  |cons x xs=>
   obtain⟨⟨cv,w1⟩,h1,h⟩:=Rd.bind_some h;obtain⟨⟨cr,w2⟩,h2,h⟩:=Rd.bind_some h;obtain⟨rfl,rfl⟩:=bW (aJ h);obtain⟨e1,e2,e3⟩:=Kz cf h1;obtain⟨i1,i2,i3,i7⟩:=ih h2;refine⟨by simp[e1,i1],by simp[i2],by rw[e2,i3];rfl,λvals hv q y hq=> ?_⟩
   cases q with
   |zero=>cases hq;obtain⟨u,hu,ha⟩:=hv.2 0 x rfl;exact⟨u,hu,e3 u ha⟩
   |succ q=>
    have Nd:fX E w c (vals.extract 1 vals.size) xs:=by
     refine⟨by simp;have:=hv.1;simp at this;omega,λj b hj=> ?_⟩
     obtain⟨u,hu,hb⟩:=hv.2 (j+1) b hj;refine⟨u, ?_,hb⟩
     have:=(dU.1 hu).1;rw[ea,bz (by omega),iZ];exact hu
    obtain⟨u,r1,r2⟩:=i7 _ Nd q y hq;refine⟨u, ?_,r2⟩
    rw[ea]at r1;split at r1
    ·rw[iZ];exact r1
    ·cases r1
end
end Go.FG

namespace Go.FG
section
variable {P:c5} {E:fO} {σ:St} {a:Act} {w:bM} {c:e9} {o:fA} {nm:aF} {e:sR}
structure Inv (E:fO) (σ:St) (w:bM) (c:e9) (ex:aW) (ks:aA Ck) (vals:dt bk) (z:aQ) (N:aF->aF->az aF) (S:aA aF):Prop where
 size:vals.size=z.length*ks.length
 sh:∀y∈z,y.map CV.kd=ks
 inS:∀i j nm,N i j=ah nm->nm∈S
 inj:∀i j i' j' nm,N i j=ah nm->N i' j'=ah nm->i=i'/\j=j'
 cell:∀(i:aF) (y:aA CV) (j:aF) (x:CV),z[i]? =ah y->y[j]? =ah x->∃u:bk,vals[i*ks.length+j]? =ah u/\(if ex=ai then Bu σ c (N i j) u x else c_ E w c.K u x)
theorem Inv.set{ex:aW}{ks:aA Ck}{vals:dt bk}{z:aQ}{N:aF->aF->az aF}{S:aA aF}(h:Inv E σ w c ex ks vals z N S){i0:aF}(hi:i0<z.length){cs:aA CV}{vs:dt bk}(hk:cs.map CV.kd=ks)(SN:vs.size=ks.length)
  {M:aF->az aF} {L:aA aF} (hM:∀j nm,M j=ah nm->nm∈L) (hMi:∀i j nm,M i=ah nm->M j=ah nm->i=j) (hd:∀nm∈L,nm∉S)
  (hc:∀(q:aF) (x:CV),cs[q]? =ah x->∃u:bk,vs[q]? =ah u/\(if ex=ai then Bu σ c (M q) u x else c_ E w c.K u x)):
  Inv E σ w c ex ks (ed vals (i0*ks.length) vs.toList) (z.set i0 cs) (λi j=>if i=i0 then M j else N i j) (S++L):=by
 have h1:(i0+1)*ks.length<=z.length*ks.length:=b8 _ hi;rw[dp]at h1;have hb:i0*ks.length+vs.toList.length<=vals.size:=by rw[h.size,show vs.toList.length=ks.length from SN];omega
 refine⟨by rw[fa hb,cB];exact h.size, ?_, ?_, ?_, ?_⟩
 ·intro y hy;rcases jG hy with hy|hy
  ·exact h.sh y hy
  ·rw[hy];exact hk
 ·intro i j nm hn;replace hn:(if i=i0 then M j else N i j)=ah nm:=hn;split at hn
  ·exact bO _ (hM j nm hn)
  ·exact bN _ (h.inS i j nm hn)
 ·intro i j i' j' nm hn kJ;replace hn:(if i=i0 then M j else N i j)=ah nm:=hn;replace kJ:(if i'=i0 then M j' else N i' j')=ah nm:=kJ;split at hn
  ·rename_i e1;split at kJ
   ·rename_i e2;exact⟨e1.trans e2.symm,hMi j j' nm hn kJ⟩
   ·exact cJ (h.inS i' j' nm kJ) (hd nm (hM j nm hn))
  ·split at kJ
   ·exact cJ (h.inS i j nm hn) (hd nm (hM j' nm kJ))
   ·exact h.inj i j i' j' nm hn kJ
 ·intro i y j x hy hx;rw[P6]at hy;rw[gm hb,show vs.toList.length=ks.length from SN];by_cases IW:i0=i
  ·subst IW;rw[bz rfl,bz hi]at hy;cases hy;have hj:j<ks.length:=by rw[<-hk,bU];exact(aT.1 hx).1
   obtain⟨u,hu,hr⟩:=hc j x hx;refine⟨u, ?_,by simpa using hr⟩
   rw[bz (by omega),cX,<-hu];congr 1;omega
  ·rw[bH IW]at hy;obtain⟨u,hu,hr⟩:=h.cell i y j x hy hx;have hj:j<ks.length:=by rw[<-h.sh y (aR hy),bU];exact(aT.1 hx).1
   refine⟨u, ?_,by rw[show(if i=i0 then M j else N i j)=N i j from bH (λe=>IW e.symm)];exact hr⟩
   rw[bH ?_];exact hu;rcases P9 IW with jy|hgt
   ·have:(i0+1)*ks.length<=i*ks.length:=b8 _ jy;rw[dp]at this;omega
   ·have:(i+1)*ks.length<=i0*ks.length:=b8 _ hgt;rw[dp]at this;omega
theorem OH(cf:Ok E σ w c)(dK:fC E σ a w c){ex:aW}{ks:aA Ck}(lj:0<ks.length):∀(ps:aA (aF×dz)) (z z':aQ) (ws:aA (aF×eQ)),(Ky ex ks ps z).val σ=ah (z',ws)->
  z'.length=z.length/\∃L,ws=oq L/\(∀nm∈L,∃ob,σ (c9 nm)= .o ob)/\∀vals N S,(S++L).Nodup->Inv E σ w c ex ks vals z N S->
   ∃ja N',pE (λi=>ah (i*ks.length,ks.length)) vals (ps.map λ(i,x)=>(i,a.eval x))=ah ja/\Inv E σ w c ex ks ja z' N' (S++L):=by
 intro ps;induction ps with
 |nil=>intro z z' ws h;obtain⟨rfl,rfl⟩:=bW (aJ h);exact⟨rfl,[],rfl,λnm h=>(by cases h),λvals N S _ hi=>⟨vals,N,rfl,by rw[dm];exact hi⟩⟩
 |cons p r ih=>
  obtain⟨i0,x⟩:=p;intro z z' ws h;obtain⟨v,h1,h⟩:=Rd.bind_some h;obtain⟨O7,hkv⟩:=mr dK h1;cases v with
  |v g ys=>
   obtain⟨h2,h⟩:=cR h;have h2:=cL h2;obtain⟨⟨cs,w1⟩,h3,h⟩:=Rd.bind_some h;obtain⟨⟨z1,w2⟩,h4,h⟩:=Rd.bind_some h;obtain⟨rfl,rfl⟩:=bW (aJ h);have oU:=qj.cells O7
   have Iy:cs.map CV.kd=ks/\ys.length=ks.length/\∃(L:aA aF) (M:aF->az aF),w1=oq L/\(∀nm∈L,∃ob,σ (c9 nm)= .o ob)/\(∀j nm,M j=ah nm->nm∈L)/\(L.Nodup->∀i j nm,M i=ah nm->M j=ah nm->i=j)/\
     ∀(q:aF) (x:CV),cs[q]? =ah x->∃u:bk,(a.eval ‹dz›).cells[q]? =ah u/\(if ex=ai then Bu σ c (M q) u x else c_ E w c.K u x):=by
    cases ex with
    |true=>obtain⟨q1,q2,L,M,q3,q4,q5,q6,q7⟩:=Sf (E:=E) (w:=w) (c:=c) h3;exact⟨q1,q2,L,M,q3,q4,q5,q6,λq x hq=>by simpa using q7 _ oU q x hq⟩
    |false=>obtain⟨q1,q2,q3,q4⟩:=Iz cf h3;exact⟨q1,q2,[],λ_=>aj,q3,λnm h=>(by cases h),λj nm h=>(by cases h),λ_ i j nm h=>(by cases h),λq x hq=>by simpa using q4 _ oU q x hq⟩
   obtain⟨q1,q2,L,M,rfl,q4,q5,q6,q7⟩:=Iy;obtain⟨i1,L2,rfl,i3,i4⟩:=ih _ _ _ h4;rw[cB]at i1;refine⟨i1,L++L2,by simp[oq],λnm hn=>(ba.1 hn).elim (q4 nm) (i3 nm),λvals N S I5 hinv=> ?_⟩
   have aiz:((S++L)++L2).Nodup:=by rw[cu];exact I5
   obtain⟨n1,n2,n3⟩:=eL.1 aiz;obtain⟨m1,m2,m3⟩:=eL.1 n1;have SN:(a.eval x).cells.size=ks.length:=by rw[oU.1,q2]
   have ais:=hinv.set (i0:=i0) (by omega) q1 SN q5 (q6 m2) (λnm hn hs=>m3 nm hs nm hn rfl) q7;obtain⟨ja,N',f1,f2⟩:=i4 _ _ _ aiz ais;refine⟨ja,N', ?_,by rw[<-cu];exact f2⟩
   have h1:(i0+1)*ks.length<=z.length*ks.length:=b8 _ h2;rw[dp,<-hinv.size]at h1;simp only[fB,pE];rw[bH (by simp[SN];omega)];have:=EE (off:=i0*ks.length) (vs:=(a.eval x).cells) (cells:=vals) (by omega);rw[<-f1];exact lM (λq=>pE (λi=>ah (i*ks.length,ks.length)) q _) this
  |j_=>simp at h
  |un=>simp at h
theorem CQ{t el n:aF}{inf:Kb}{z:bk}{ks:aA Ck}{ps:dt (aF×bk)}{cells:dt bk}(hu:P.underlying t=ah (.slice el))(hi:P.info? el=ah inf)(gf:inf.size=ks.length)(hz:inf.zero=ah z)(hzc:z.cells=(ks.map iJ).toArray)
  (h24:n*ks.length<=16777216) (hf:pE (λi=>ah (i*ks.length,ks.length)) (madeCells (ks.map iJ).toArray (n*ks.length)) ps.toList=ah cells):
  (zU t n ps).run P w= .ok (.slice (ah (ad w.heap.size 0)) n n) (w.alloc (.cells cells el)):=by
 have aqW:¬(n*ks.length>2^24):=by omega
 by_cases h0:n*ks.length=0
 ·have e0:(Array.range (n*ks.length)).map (λi=>(#[]:dt bk)[i%(#[]:dt bk).size]!)=madeCells (ks.map iJ).toArray (n*ks.length):=by rw[h0];simp[madeCells,Array.range_zero']
  simp only[zU,ch,run_underlying hu,bG,sizeOf,typeInfo,program,nr,hi,gf,cT,h0,if_true,na];rw[h0]at e0 hf;rw[e0,hf];simp only[newRow,newObj,ch,nr,bG,cT];rfl
 ·have e0:(Array.range (n*ks.length)).map (λi=>z.cells[i%z.cells.size]!)=madeCells (ks.map iJ).toArray (n*ks.length):=by rw[hzc];rfl
  simp only[zU,ch,run_underlying hu,bG,sizeOf,typeInfo,program,nr,hi,gf,aqW,if_false,cT,h0,zeroValue,hz,na];rw[e0,hf];simp only[newRow,newObj,ch,nr,bG,cT];rfl
theorem qM:∀{l:aA aF},tG l=ai->l.Nodup
 |[],_=> .nil
 |n::r,h=>by
  simp only[tG,aL,dx]at h;refine kH.2 ⟨λhm=> ?_,qM h.2⟩;have:mJ n r=true:=by
   have:=h.1;clear h;induction r with
   |nil=>cases hm
   |cons m r ih=>
    rcases cy.1 hm with rfl|hm
    ·simp[mJ]
    ·simp only[mJ,iG]at this⊢;rw[ih hm this.2];simp
  rw[this]at h;cases h.1
theorem rQ{α β:Type}{f:α->β}:∀{l:aA α},(l.map f).Nodup->l.Nodup
 |[],_=> .nil
 |x::l,h=>by
  rw[fB,kH]at h;exact kH.2 ⟨λhm=>h.1 (cU.2 ⟨x,hm,rfl⟩),rQ h.2⟩
theorem Xh{ks:aA Ck}(hf:flat E ks=ai){e:aF}(hm:Ck.l e∈ks):∃t,E.ty e=ah t/\plain t.ks=true:=by
 have h:=bn.1 hf _ hm;replace h:(match E.ty e with|some ti=>plain ti.ks|none=>ak)=true:=h;cases ht:E.ty e with
 |none=>rw[ht]at h;cases h
 |some t=>rw[ht]at h;exact⟨t,rfl,h⟩
theorem PI(cf:Ok E σ w c){n e:aF}{ex:aW}{xs:aQ}(hg:σ (c9 n)= .o (.row e ex xs)){t:TI}(ht:E.ty e=ah t)(hp:plain t.ks=ai):
  (c.P n).sz=t.ks.length/\(∀y∈xs,y.map CV.kd=t.ks)/\jh w (c.P n) xs (λ_ _ u x=>Sc u x):=by
 obtain⟨⟨t2,q1,q2,q3⟩,q4,_⟩:=cf.obj n _ hg;obtain rfl:t=t2:=aJ (ht.symm.trans q1);refine⟨q2,q3,q4.frame (λ_=>rfl) (λi j y x u hi hj hr=> ?_)⟩
 have hl:=iq hp (q3 y (aR hi)) hj;split at hr
 ·exact uG hr hl
 ·exact pr hr hl
theorem R7(cf:Ok E σ w c){ks:aA Ck}(hf:flat E ks=ai){m:az aF}{G:aF->aF->Pl}{i j:aF}(hG:G i j=match m with|some n=>c.P n|none=>Ld E ks i j){u:bk}{x:CV}(hx:ks[j]? =ah x.kd){w':bM}(hw:∀b,b<w.heap.size->(∃n,m=ah n/\b=(c.P n).blk)->w'.heap[b]? =w.heap[b]?)(h:Bu σ c m u x):XC E w' G i j u x:=by
 cases x with
 |l e ys=>
  obtain⟨t,ht,hp⟩:=Xh hf (aR hx);rcases h with ⟨rfl,rfl,rfl⟩|⟨n,rfl,rfl,hg⟩
  ·refine⟨by rw[hG];rfl,t,ht,hp, ?_,λy hy=>(by cases hy),⟨by rw[hG];rfl,λ_=>⟨rfl,by rw[hG];rfl⟩,λhn=>by rw[hG]at hn;cases hn⟩⟩
   rw[hG];show(match ks[j]? with|some (.l e)=>(match E.ty e with|some t=>t.ks.length|none=>0)|_=>0)=_;rw[hx];simp only[CV.kd,ht]
  ·obtain⟨q1,q2,q3⟩:=PI cf hg ht hp;refine⟨by rw[hG],t,ht,hp,by rw[hG];exact q1,q2, ?_⟩
   rw[hG];refine q3.frame (λhn=>hw _ (wB.lt cf ⟨n,_,hg, .inl ⟨hn,rfl⟩⟩) ⟨n,rfl,rfl⟩) (λ_ _ _ _ _ _ _ h=>h)
 |i=>exact h
 |b=>exact h
 |s=>exact h
theorem DY(hE:eB P E)(cf:Ok E σ w c)(dK:fC E σ a w c)(hd:∀d,o.dst=ah d->d<a.tmps.size){t n:aF}{ps:dt (aF×dz)}(ho:o.op= .buildSlice t n ps)(h:(me E nm o).val σ=ah e)(hc:e.cond=ai):gT P E σ a w c o e.ws:=by
 simp only[me,ho]at h;obtain⟨ti,h1,h⟩:=Rd.bind_some h;have h1:=dW h1;split at h
 ·rename_i el uq AO;obtain⟨te,h2,h⟩:=Rd.bind_some h;have h2:=dW h2;obtain⟨zr,h⟩:=cR h;obtain⟨ex0,_,h⟩:=Rd.bind_some h;obtain⟨⟨xs,ws⟩,h3,h⟩:=Rd.bind_some h;obtain⟨u,h4,h⟩:=Rd.bind_some h;obtain⟨hf,jy⟩:=kI h4;obtain rfl:=aJ h;simp only[aL]at hc;obtain⟨h24,I5⟩:=hc;have h24:=cL h24;have hu:=pe hE h1 uq AO;obtain⟨inf,hi,gf,_,lj,hz⟩:=hE.info el te h2;obtain⟨z,JY,DV,_⟩:=hz zr;have M_:(ex0&&flat E te.ks)=ai->flat E te.ks=true:=λh=>by simp only[aL]at h;exact h.2
  generalize (ex0&&flat E te.ks)=ex at h3 M_⊢;obtain⟨hlen,L,rfl,hL,SJ⟩:=OH (c:=c) cf dK lj ps.toList _ _ _ h3;have I5:L.Nodup:=by have:=qM I5;unfold oq at this;rw[ml]at this;exact rQ this
  obtain⟨vals,N,aik,hinv⟩:=SJ (madeCells (te.ks.map iJ).toArray (n*te.ks.length)) (λ_ _=>aj) [] (by simpa using I5)
   ⟨by rw[size_madeCells];simp[aP],yr zr n,λi j nm h=>(by cases h),λi j i' j' nm h=>(by cases h),λi y j x hy hx=>by
    obtain⟨gq,k,hk,rfl⟩:=uH hy hx;refine⟨iJ k,lT gq hk, ?_⟩
    have hko:=bn.1 zr k (aR hk);split
    ·cases k with
     |l e=>exact .inl ⟨rfl,rfl,rfl⟩
     |o=>cases hko
     |s=>exact⟨rfl,bI _⟩
     |_=>exact⟨rfl,trivial⟩
    ·exact L0 hko⟩
  rw[gz]at hinv;have hr:=CQ (P:=P) (w:=w) (n:=n) (ps:=ps.map λ(i,x)=>(i,a.eval x)) hu hi gf JY DV h24 (by rw[Ak];exact aik);have K2:xs.length=n:=by rw[hlen];simp[aP]
  let g:aF->aF->Pl:=λi j=>match N i j with|some m=>c.P m|none=>Ld E te.ks i j
  let c':e9:=⟨λm=>if m=nm then⟨ak,w.heap.size,0,n,n,te.ks.length⟩else c.P m,λm=>if m=nm then g else c.G m,c.K⟩
  have hP:c'.P nm=⟨ak,w.heap.size,0,n,n,te.ks.length⟩:=bz rfl;have hG:c'.G nm=g:=bz rfl;have hA:jC σ c c':=λm hm=>by
   have:m≠nm:=by rintro rfl;rcases hm with h|h;exact h hf;omega
   exact⟨bH this,bH this⟩
  have gN:∀i j,(g i j).nil=ak->∃m ob,N i j=ah m/\g i j=c.P m/\m∈L/\σ (c9 m)= .o ob:=by
   intro i j hn;cases hm:N i j with
   |none=>simp only[g,hm]at hn;cases hn
   |some m=>obtain⟨ob,mV⟩:=hL m (hinv.inS i j m hm);exact⟨m,ob,rfl,by simp only[g,hm],hinv.inS i j m hm,mV⟩
  have inn:∀i j,ex=ai->gh xs i j->(g i j).nil=ak->∃m el2 ys,N i j=ah m/\g i j=c.P m/\m∈L/\σ (c9 m)= .o (.row el2 ai ys)/\(c.P m).nil=false:=by
   rintro i j hex ⟨y,x,hy,hx,hl⟩ hn;obtain⟨m,ob,q1,q2,q3,q4⟩:=gN i j hn;obtain⟨u,_,hr⟩:=hinv.cell i y j x hy hx;rw[bz hex,q1]at hr;cases x with
   |l e2 ys=>
    rcases hr with ⟨h,_⟩|⟨m',h,_,hg⟩
    ·cases h
    ·cases h;exact⟨m,e2,ys,q1,q2,q3,hg,by rw[<-q2];exact hn⟩
   |i=>simp[ur]at hl
   |b=>simp[ur]at hl
   |s=>simp[ur]at hl
  have SP:∀b,b<w.heap.size->(w.alloc (.cells vals el)).heap[b]? =w.heap[b]? :=λb hb=>heap_alloc_old w _ b hb;have mem:∀m x,(m,x)∈Ey L++[(nm,Obj.row el ex xs)]->(m∈L/\x= .dead)\/(m=nm/\x= .row el ex xs):=by
   intro m x hm;rcases ba.1 hm with hm|hm
   ·unfold Ey at hm;obtain⟨q,hq,h⟩:=cU.1 hm;cases h;exact .inl ⟨hq,rfl⟩
   ·rw[aZ]at hm;cases hm;exact .inr ⟨rfl,rfl⟩
  have hws:oq L++(c9 nm,eQ.o (.row el ex xs))::dw o (.v ak [.own nm])=kg (Ey L++[(nm,Obj.row el ex xs)])++dw o (.v ak [.own nm]):=by rw[B3];unfold kg;simp
  show gT P E σ a w c o (oq L++(c9 nm,eQ.o (.row el ex xs))::dw o (.v ak [.own nm]));rw[hws];refine KL cf dK hd (c':=c') (w':=w.alloc (.cells vals el)) (v:= .slice (ah (ad w.heap.size 0)) n n) hA ?_ ?_ ?_ ?_ (λ_ h=>h) (λ_ h=> .inl h) (λb hb=>ju (cf.lt b hb) (by simp)) (λb hb _=>SP b hb) (by simp) rfl rfl rfl ?_ ?_ ?_
  ·intro m x hm;rcases mem m x hm with ⟨_,rfl⟩|⟨rfl,rfl⟩
   ·trivial
   ·refine⟨⟨te,h2,by rw[hP],hinv.sh⟩, ?_,λhex=> ?_⟩
    ·rw[hP,hG];refine⟨K2.symm,λhn=>(by cases hn),λ_=>⟨vals,nW.alloc w _ el,cD _, ?_, ?_,λi y j x hy hx=> ?_⟩⟩
     ·show n<=2^63-1;have:n*1<=n*te.ks.length:=Nat.mul_le_mul_left _ lj;omega
     ·rw[hinv.size,K2];simp
     ·obtain⟨u,sg,DR⟩:=hinv.cell i y j x hy hx;refine⟨u,by simpa using sg, ?_⟩
      split at DR
      ·rename_i hex;rw[bz hex];refine R7 cf (M_ hex) rfl ?_ (λb hb _=>SP b hb) DR;rw[<-hinv.sh y (aR hy),bL,hx];rfl
      ·rename_i hex;rw[bH hex];exact DR.frame (λb hb=>SP b (cf.lt b hb)) (λ_ h=>h)
    ·rw[hP,hG];refine⟨λi j hh hn _=> ?_,λi j i' j' hh AM hn kJ hbk=> ?_⟩
     ·obtain⟨m',e2,ys,_,q2,_,q4,q5⟩:=inn i j hex hh hn;have:(c.P m').blk<w.heap.size:=wB.lt cf ⟨m',_,q4, .inl ⟨q5,rfl⟩⟩;rw[q2];show(c.P m').blk≠w.heap.size;omega
     ·obtain⟨m1,e1,y1,p1,p2,_,p4,p5⟩:=inn i j hex hh hn;obtain⟨m2,e2,y2,r1,r2,_,r4,r5⟩:=inn i' j' hex AM kJ;rw[p2,r2]at hbk;have:=cf.sep m1 _ m2 _ _ p4 r4 (.inl ⟨p5,rfl⟩) (.inl ⟨r5,hbk⟩);subst this;exact hinv.inj i j i' j' m1 p1 r1
  ·intro m x b hm pT;rcases mem m x hm with ⟨_,rfl⟩|⟨rfl,rfl⟩
   ·exact pT.elim
   ·rcases pT with ⟨_,rfl⟩|⟨hex,i,j,hh,hn,rfl⟩
    ·rw[hP];exact⟨.inr (cD _),λhk=>by have:=cf.lt _ hk;exact cJ this (bm _)⟩
    ·rw[hG]at hn⊢;obtain⟨m',e2,ys,_,q2,q3,q4,q5⟩:=inn i j hex hh hn;rw[q2];refine⟨.inl ⟨m',_,⟨.dead,bN _ (cU.2 ⟨m',q3,rfl⟩)⟩,q4, .inl ⟨q5,rfl⟩⟩,cf.kk m' _ _ q4 (.inl ⟨q5,rfl⟩)⟩
  ·intro m x m' x' b hm xA pT SB;rcases mem m x hm with ⟨_,rfl⟩|⟨rfl,rfl⟩
   ·exact pT.elim
   ·rcases mem m' x' xA with ⟨_,rfl⟩|⟨rfl,rfl⟩
    ·exact SB.elim
    ·rfl
  ·intro m zs hm;rcases mem m _ hm with ⟨_,h⟩|⟨_,h⟩<;>cases h
  ·show _=lS (c'.P nm);rw[hP];rfl
  ·intro m hm;have:m=nm:=by simpa [cM,bQ]using hm
   subst this;exact .inr ⟨_,bO _ (aZ.2 rfl)⟩
  ·unfold execOp;rw[ho];exact iW hr
 ·simp at h
end
end Go.FG

namespace Go.FG
section
variable {P:c5}
def l_(elem:TypeId)(size:aF)(base:az Addr)(sLen sCap:aF)(s x:bk)(aP:aW)(n:aF)(Ig:Sem (dt bk)):Sem bk:=
 if sLen+n<=sCap then do
  let new<-Ig
  if let ah a:=base then storeCells (a.add (sLen*size)) new.toList
  pure (.slice base (sLen+n) sCap)
 else do
  if((sLen+n:aF):aw)>ao.max/\(aP\/(<-typeInfo elem).bytes=0)then runtimePanic (.error "growslice: len out of range")
  if HE (sLen+n) sCap*(<-typeInfo elem).bytes>2^48 then(if aP then runtimePanic (.error "growslice: len out of range")else do
   if !(<-Builtin.mayShare size sLen n base x)then mark .noRoom
   unsupported (.resourceLimit "append: a slice or a string whose bytes no memory bears"))
  let Lc<-choose (.appendCap (sLen+n) sCap elem)
  askRoom (Lc*(<-typeInfo elem).bytes)
  let old<-fy size sLen s
  let new<-Ig
  let rest:=fL (<-zeroValue elem).cells (Lc-(sLen+n))
  pure (.slice (ah (<-newRow elem (old++new++rest))) (sLen+n) Lc)
theorem zI{w:bM}{t u ty el:aF}{inf:Kb}(hu:P.underlying t=ah (.slice el))(hi:P.info? el=ah inf)(hd:(∃e',P.underlying u=ah (.slice e'))\/P.underlying u=ah .string)
  {base:az Addr} {sLen sCap m:aF} {x:bk} (hl:(pD x).run P w= .ok m w):
  (iu #[t,u] ty #[.slice base sLen sCap,x]).run P w=(l_ el inf.size base sLen sCap (.slice base sLen sCap) x ak m (fy inf.size m x)).run P w:=by
 have hs:(sizeOf el).run P w= .ok inf.size w:=by simp[sizeOf,typeInfo,hi]
 rcases hd with ⟨e',hd⟩|hd<;>
  (simp only[iu,h_,sA,dO,ch,run_underlying hu,run_underlying hd,bG,hs,cT,hl,dv,if_false,bR,if_true,false_or,na]
   unfold l_
   simp only[na,ch,dv,if_false,false_or,cT]
   try rfl)
theorem CO{w:bM}{t u ty el:aF}{inf:Kb}(hu:P.underlying t=ah (.slice el))(hi:P.info? el=ah inf){k:nq}(hd:P.underlying u=ah (.int k))
  {base:az Addr} {sLen sCap m:aF} {x:bk} {k':nq} (hx:x= .int k' (m:aw)) (h1:m<=9223372036854775807) (h2:m*inf.bytes<=140737488355328):
  (iu #[t,u] ty #[.slice base sLen sCap,x]).run P w=(l_ el inf.size base sLen sCap (.slice base sLen sCap) x ai m (if m*inf.size=0 then pure #[]else do pure (fL (<-zeroValue el).cells m))).run P w:=by
 have hs:(sizeOf el).run P w= .ok inf.size w:=by simp[sizeOf,typeInfo,hi]
 have ht:∀W,(typeInfo el).run P W= .ok inf W:=λW=>by simp[typeInfo,hi]
 have hw:ao.wrap (m:aw)=m:=by rw[qa];omega
 have c1:¬((m:aw)<0):=by omega
 have c2:¬((m:aw)*(inf.bytes:aw)>2^48):=by
  have a2:((m*inf.bytes:aF):aw)<=140737488355328:=by generalize m*inf.bytes=q at h2;omega
  rw[WI]at a2;generalize (m:aw)*(inf.bytes:aw)=q at a2;have:(2:aw)^48=281474976710656:=by decide
  omega
 subst hx;have ha:(asInt (.int k' (m:aw))).run P w= .ok (m:aw) w:=by simp[asInt,asIntOf]
 simp only[iu,h_,sA,dO,ch,run_underlying hu,run_underlying hd,bG,hs,ht,ha,hw,c1,c2,cT,if_false,a_,dv,if_true,na,dG];unfold l_;simp only[na,ch,if_true,true_or,and_true,cT,ht,bG];try rfl
theorem D5{w w':bM}{el size sLen sCap m:aF}{a:Addr}{s x:bk}{zs:aW}{app:Sem (dt bk)}{news:aA bk}(ha:app.run P w= .ok news.toArray w)(h:sLen+m<=sCap)(KX:(storeCells (a.add (sLen*size)) news).run P w= .ok () w'):
  (l_ el size (ah a) sLen sCap s x zs m app).run P w= .ok (.slice (ah a) (sLen+m) sCap) w':=by unfold l_;rw[bz h];simp only[ch,ha,bG,KX,cT]
theorem D4{w:bM}{el size sCap:aF}{s x:bk}{zs:aW}{app:Sem (dt bk)}{news:aA bk}(ha:app.run P w= .ok news.toArray w):
  (l_ el size aj 0 sCap s x zs 0 app).run P w= .ok (.slice aj 0 sCap) w:=by unfold l_;rw[bz (bI _)];simp only[ch,ha,bG,cT]
theorem D3{w:bM}{el size sLen sCap m:aF}{base:az Addr}{s x:bk}{zs:aW}{app:Sem (dt bk)}{py news:aA bk}{inf:Kb}{z:bk}(hi:P.info? el=ah inf)(hz:inf.zero=ah z)
  (h:¬sLen+m<=sCap) (h63:sLen+m<=9223372036854775807) (h48:(sLen+m)*inf.bytes<=140737488355328)
  (ho:(fy size sLen s).run P w.drew= .ok py.toArray w.drew) (ha:app.run P w.drew= .ok news.toArray w.drew):
  (l_ el size base sLen sCap s x zs m app).run P w= .ok (.slice (ah (ad w.heap.size 0)) (sLen+m) (grownCap w (sLen+m) sCap el))
   (w.drew.alloc (.cells (py.toArray++news.toArray++fL z.cells (grownCap w (sLen+m) sCap el-(sLen+m))) el)):=by
 have ht:∀W,(typeInfo el).run P W= .ok inf W:=λW=>by simp[typeInfo,hi]
 have hzv:∀W,(zeroValue el).run P W= .ok z W:=λW=>by simp[zeroValue,typeInfo,hi,hz]
 have c1:¬(((sLen+m:aF):aw)>ao.max/\(zs=ai\/inf.bytes=0)):=by
  have:ao.max=9223372036854775807:=by decide
  rintro ⟨h,_⟩;omega
 have c2:¬(HE (sLen+m) sCap*inf.bytes>2^48):=by
  have:=growslice_fits (need:=sLen+m) (old:=sCap) (bytes:=inf.bytes) (by omega) h48;have e:2^48=281474976710656:=by decide
  omega
 have V_:(choose (.appendCap (sLen+m) sCap el)).run P w= .ok (grownCap w (sLen+m) sCap el) w.drew:=by rw[run_choose_drew];rfl
 have aq2:∀n W,(askRoom n).run P W= .ok () W:=λn W=>by simp only[askRoom];split<;>simp
 have zq:∀cs,(newRow el cs).run P w.drew= .ok (ad w.heap.size 0) (w.drew.alloc (.cells cs el)):=λcs=>by simp only[newRow,newObj,ch,nr,bG,cT];rfl
 unfold l_;rw[bH h];simp only[ch,ht,bG,c1,c2,if_false,V_,aq2,ho,ha,hzv,zq,cT,na]
structure App (P:c5) (w:bM) (u:aF) (x:bk) (z:dt bk) (sz m:aF) (news:aA bk):Prop where
 h:(((∃e',P.underlying u=ah (.slice e'))\/P.underlying u=ah .string)/\(pD x).run P w= .ok m w/\(fy sz m x).run P w= .ok news.toArray w/\(fy sz m x).run P w.drew= .ok news.toArray w.drew)\/
  ((∃k,P.underlying u=ah (.int k))/\(∃k',x= .int k' (m:aw))/\news=(fL z m).toList)
 len:news.length=m*sz
 one:∀v∈news,v.oneCell'=ai
structure adC (w w':bM) (p p':Pl) (m:aF) (news:aA bk):Prop where
 n:p'.n=p.n+m
 sz:p'.sz=p.sz
 nil:p'.nil=ai->p'.cap=0/\p.n=0/\m=0
 mem:p'.nil=ak->∃ja,nW w' p'.blk ja/\p'.n<=p'.cap/\p'.cap<=maxLen/\p'.off+p'.cap*p'.sz<=ja.size/\
  (∀k u,k<p.n*p.sz->w.cell? (ad p.blk (p.off+k))=ah u->ja[p'.off+k]? =ah u)/\(∀k,k<m*p.sz->ja[p'.off+p.n*p.sz+k]? =news[k]?)
 blk:p'.nil=ak->(p.nil=ak/\p'.blk=p.blk)\/p'.blk=w.heap.size
 old:∀b,b<w.heap.size->(p'.nil=ak->b≠p'.blk)->w'.heap[b]? =w.heap[b]?
 size:w.heap.size<=w'.heap.size
 os:w'.os=w.os
 tape:w'.tape=w.tape
 output:w'.output=w.output
theorem tN{w:bM}{t u ty el:aF}{inf:Kb}{z:bk}{p:Pl}{x:bk}{m:aF}{news:aA bk}(hu:P.underlying t=ah (.slice el))(hi:P.info? el=ah inf)(hz:inf.zero=ah z)(Qo:z.cells.size=p.sz)(gf:inf.size=p.sz)
  (jz:p.nil=ai->p.n=0) (aeK:p.nil=ak->∃vals,nW w p.blk vals/\p.n<=p.cap/\p.cap<=maxLen/\p.off+p.cap*p.sz<=vals.size)
  (hx:App P w u x z.cells p.sz m news) (h1:(p.n+m)*inf.bytes<=140737488355328) (h2:p.n+m<=9223372036854775807):
  ∃p' w',(iu #[t,u] ty #[lS p,x]).run P w= .ok (lS p') w'/\adC w w' p p' m news:=by
 have hmb:m*inf.bytes<=140737488355328:=dg (b8 _ (by omega)) h1;have hzv:∀W,(zeroValue el).run P W= .ok z W:=λW=>by simp[zeroValue,typeInfo,hi,hz]
 have hml:p.n+m<=maxLen:=by simp only[maxLen];omega
 have tail:∀(base:az Addr) (sLen sCap:aF),∃(zs:aW) (app:Sem (dt bk)),(iu #[t,u] ty #[.slice base sLen sCap,x]).run P w=(l_ el p.sz base sLen sCap (.slice base sLen sCap) x zs m app).run P w/\
   app.run P w= .ok news.toArray w/\app.run P w.drew= .ok news.toArray w.drew:=by
  intro base sLen sCap
  rcases hx.h with ⟨hd,hl,hf,hf2⟩|⟨⟨k,hk⟩,⟨k',hxv⟩,hn⟩
  ·have:=zI (P:=P) (w:=w) (ty:=ty) hu hi hd (base:=base) (sLen:=sLen) (sCap:=sCap) hl;rw[gf]at this;exact⟨_,_,this,hf,hf2⟩
  ·have:=CO (P:=P) (w:=w) (ty:=ty) hu hi hk (base:=base) (sLen:=sLen) (sCap:=sCap) hxv (by omega) hmb;rw[gf]at this;refine⟨_,_,this, ?_, ?_⟩
   ·rw[hn];split
    ·rename_i h0;have:fL z.cells m= #[]:=Aj (by rw[size_zeroCells,Qo,h0]);rw[this];rfl
    ·simp only[ch,hzv,bG,cT,t_]
   ·rw[hn];split
    ·rename_i h0;have:fL z.cells m= #[]:=Aj (by rw[size_zeroCells,Qo,h0]);rw[this];rfl
    ·simp only[ch,hzv,bG,cT,t_]
 have grow:∀(base:az Addr) (sCap:aF) (py:aA bk) (zs:aW) (app:Sem (dt bk)),¬p.n+m<=sCap->py.length=p.n*p.sz->(∀k u,k<p.n*p.sz->w.cell? (ad p.blk (p.off+k))=ah u->py[k]? =ah u)->
   (fy p.sz p.n (.slice base p.n sCap)).run P w.drew= .ok py.toArray w.drew->app.run P w.drew= .ok news.toArray w.drew->
   ∃p' w',(l_ el p.sz base p.n sCap (.slice base p.n sCap) x zs m app).run P w= .ok (lS p') w'/\adC w w' p p' m news:=by
  intro base sCap py zs app hc EK O7 hf ha
  have hr:=D3 (P:=P) (w:=w) (size:=p.sz) (zs:=zs) (x:=x) (base:=base) hi hz hc h2 h1 hf ha
  refine⟨⟨ak,w.heap.size,0,grownCap w (p.n+m) sCap el,p.n+m,p.sz⟩,_,hr,⟨rfl,rfl,λh=>(by cases h),λ_=> ?_,λ_=> .inr rfl,λb hb _=>heap_alloc_old w.drew _ b hb,by simp,rfl,rfl,rfl⟩⟩
  have hge:=grownCap_ge w (p.n+m) sCap el
  refine⟨_,⟨_,_,heap_alloc_new w.drew _,λq _=>by simp⟩,hge,grownCap_le_maxLen w _ _ _ hml, ?_,λk u hk sg=> ?_,λk hk=> ?_⟩
  ·simp only[Array.size_append,VW,size_zeroCells,Qo,EK,hx.len,<-dp,bV];exact b8 _ (by omega)
  ·rw[bV,Oh,D8 (by simpa [EK]using hk),h_];exact O7 k u hk sg
  ·rw[bV,Oh,Array.getElem?_append_right (by simp[EK]),D8 (by simp[EK,hx.len];omega),h_];congr 1;simp[EK]
 cases hq:p.nil with
 |true=>
  have hn:=jz hq;rw[nG hq];obtain⟨zs,app,hr,ha,ha2⟩:=tail aj 0 0;rw[hr];by_cases hm:m=0
  ·subst hm;refine⟨⟨ai,0,0,0,0,p.sz⟩,w,D4 ha,⟨by simp[hn],rfl,λ_=>⟨rfl,hn,rfl⟩,λh=>(by cases h),λh=>(by cases h),λ_ _ _=>rfl,cD _,rfl,rfl,rfl⟩⟩
  ·have:=grow aj 0 [] zs app (by omega) (by simp[hn]) (λk u hk=>by rw[hn]at hk;simp at hk) (by rw[hn];exact run_firstCells_none _ _ _ _ _) ha2;rwa[hn]at this
 |false=>
  rw[e_ hq];obtain⟨vals,hb,SE,Xn,mH⟩:=aeK hq;obtain⟨zs,app,hr,ha,ha2⟩:=tail (ah (ad p.blk p.off)) p.n p.cap;rw[hr];have hle:p.n*p.sz<=p.cap*p.sz:=b8 _ SE;by_cases hc:p.n+m<=p.cap
  ·have vf:p.off+p.n*p.sz+news.length<=vals.size:=by have:(p.n+m)*p.sz<=p.cap*p.sz:=b8 _ hc;rw[dp]at this;rw[hx.len];omega
   have KX:=nJ (P:=P) w hb vf hx.one;have hrr:=D5 (P:=P) (s:= .slice (ah (ad p.blk p.off)) p.n p.cap) (x:=x) (el:=el) (size:=p.sz) (zs:=zs) ha hc (by rw[Addr.n7];exact KX);refine⟨⟨ak,p.blk,p.off,p.cap,p.n+m,p.sz⟩,_,hrr,⟨rfl,rfl,λh=>(by cases h),λ_=>⟨_,hb.setRow (fa vf),hc,Xn,by rw[fa vf];exact mH,λk u hk sg=> ?_,λk hk=> ?_⟩,λ_=> .inl ⟨hq,rfl⟩,λb _ Qi=>setRow_other w _ b _ (Qi rfl),by simp[lH],rfl,rfl,rfl⟩⟩
   ·show(ed vals (p.off+p.n*p.sz) news)[p.off+k]? =ah u;rw[gm vf,bH (by omega),<-hb.cell];exact sg
   ·show(ed vals (p.off+p.n*p.sz) news)[p.off+p.n*p.sz+k]? =news[k]?;rw[gm vf,bz (by rw[hx.len];omega)];congr 1;omega
  ·have hcell:∀k,k<p.n*p.sz->w.cell? (ad p.blk (p.off+k))=vals[p.off+k]? :=λk _=>hb.cell _;let py:=(vals.toList.drop p.off).take (p.n*p.sz);have EK:py.length=p.n*p.sz:=by simp only[py,eK,iz,dR];omega
   have O7:∀k u,k<p.n*p.sz->w.cell? (ad p.blk (p.off+k))=ah u->py[k]? =ah u:=λk u hk sg=>by rw[hcell k hk]at sg;simp only[py,d_,bz hk,dQ,cX,sg]
   refine grow (ah (ad p.blk p.off)) p.cap py zs app hc EK O7 ?_ ha2;refine run_firstCells_some w.drew p.sz p.n _ _ _ py EK (λj v hj=> ?_);have jY:j<p.n*p.sz:=by rw[<-EK];exact(aT.1 hj).1
   simp only[py,d_,bz jY,dQ,cX]at hj;rw[Addr.n7];have:=hcell j jY;rw[hj]at this;simpa using this
end
end Go.FG

