/- An evaluator for the part of the language that this program uses, proved sound over the model: states told as values and lists; what an evaluation tells, the call does. No condition. -/
import Derived.Calls
import Derived.Orders
import Derived.Below
import Derived.Laws.AppendOwn
import Derived.Laws.Slices
import Derived.Laws.StructEq
import Derived.Laws.Tables
import Derived.Laws.MakeOwn
import Derived.Laws.IdiomStrings
import Derived.Laws.BytesArg
import Derived.Laws.NewFold
import Derived.SizedLaws
import Derived.Carry
import Derived.ProofKit
import Derived.KernelRfl
import Derived.Laws.Strings
import Derived.Sort.Grow
import Derived.Deep.Draws
import Derived.Test.YtpcfgiocpohbmaaGreatDoorCoreb
set_option linter.all false
set_option maxRecDepth 100000
set_option autoImplicit true
set_option relaxedAutoImplicit true
open Array renaming toList_extract->iv,getElem?_toList->da,getD_eq_getD_getElem?->eM,toList_append->jR,getElem?_eq_some_iff->dD
open Bool renaming false->aq,true->ao,false_eq_true->dq,and_eq_true->aM,not_eq_true'->di,and_true->gE,not_true->aY,not_false->bH
open ByteArray renaming size->bf,size_append->dL,data_extract->gl,size_extract->vQ,extract->bx,data_append->gJ
open Decidable renaming decide->ah
open Go renaming Program->dx,Value->bS,World->cN
open Go.ByteArray renaming toList_eq->kK
open Go.IntKind renaming i64->ak,u8->a8,wrap->bG
open Go.World renaming cell?_of_block->vG,cell?->OQ
open Int renaming toNat->aP,tmod->bQ,tdiv->cz,tdiv_eq_ediv_of_nonneg->d',mul_le_mul_of_nonneg_right->DX,mul_le_mul_of_nonneg_left->Cq,pow_succ->vd,tmod_eq_emod_of_nonneg->dO
open List renaming append_assoc->cg,mem_cons->cF,map_cons->fD,mem_cons_self->cQ,mem_cons_of_mem->cK,append_nil->d_,getD->eC,drop_eq_getElem_cons->cJ,set->aC,length_append->bU,length_singleton->bz,beq->cD,range'->iT,ext_getElem?->Vq,extract_eq_take_drop->fY,getElem?_map->bJ,getElem?_take->ej,getElem?_drop->eh,getElem?_eq_none->ll,length->bD,take_add->ZE,drop_drop->v8,drop_zero->gz,take_of_length_le->e8,mem_map->cU,length_map->bK,mem_of_getElem?->aU
open List.cons renaming injEq->ZD,inj->JU
open Nat renaming beq->bN,eq_of_beq_eq_true->aX,ble->e6,le_of_ble_eq_true->b8,lt_or_ge->rL,add_zero->BJ,sub_zero->H2,lt_of_lt_of_le->jV
open Option renaming none->ay,some->ai,isSome->nK,getD->ZF,map_some->jf
open Option.some renaming inj->aL
open Prod.mk renaming inj->bX,injEq->jg
open _root_ renaming ByteArray->ar,Nat->aN,Int->az,Bool->aZ,List->aE,decide_eq_true_eq->ba,of_decide_eq_true->cB,Option->aG,cond_true->au,cond_false->ax,if_pos->bm,decide_eq_true->aA,if_neg->bk,congrArg->gu,decide_eq_decide->b7,UInt8->eJ,decide_eq_false->aD,absurd->cO,Array->eN
namespace Go.FG
def fJ(s:ar)(i:aN):aN:=(s.data.getD i 0).toNat
abbrev bA(x:az):az:=ak.wrap x
inductive gT where
 |I (n:az)|B (x:aZ)|S (x:ar)|R (xs:Row)|N (n:aN)
def gI:aE gT->az|.I n::_=>n|_=>0
def gB:aE gT->aZ|.B n::_=>n|_=>aq
def gS:aE gT->ar|.S n::_=>n|_=>⟨#[]⟩
def gR:aE gT->Row|.R n::_=>n|_=>[]
def gN:aE gT->aN|.N n::_=>n|_=>0
def hCV:CV->aE gT
 |.i _ n=>[.I n]|.b x=>[.B x]|.s x=>[.S x]|.l _ xs=>[.R xs]
def sCV:CV->CV->aZ
 |.i k _,.i k' _=>ah (k=k')|.b _,.b _=>ao|.s _,.s _=>ao|.l e _,.l a _=>bN e a|_,_=>aq
def fCV(s:CV)(l:aE gT):CV×aE gT:=
 match s with
 |.i k _=>(.i k (gI l),l.tail)|.b _=>(.b (gB l),l.tail)|.s _=>(.s (gS l),l.tail)|.l e _=>(.l e (gR l),l.tail)
def I8:aE CV->aE gT|[]=>[]|a::r=>hCV a++I8 r
def Hz:aE CV->aE CV->aZ|[],[]=>ao|a::r,b::t=>sCV a b&&Hz r t|_,_=>aq
def zX:aE CV->aE gT->aE CV×aE gT
 |[],l=>([],l)|a::r,l=>((fCV a l).1::(zX r (fCV a l).2).1,(zX r (fCV a l).2).2)
def E':aE (aE CV)->aE gT|[]=>[]|a::r=>I8 a++E' r
def Fy:aE (aE CV)->aE (aE CV)->aZ|[],[]=>ao|a::r,b::t=>Hz a b&&Fy r t|_,_=>aq
def AO:aE (aE CV)->aE gT->aE (aE CV)×aE gT
 |[],l=>([],l)|a::r,l=>((zX a l).1::(AO r (zX a l).2).1,(AO r (zX a l).2).2)
def adO(h:sCV s a=ao)(l:aE gT):fCV s (hCV a++l)=(a,l):=by
 cases s<;>cases a<;>simp only[sCV,ba,dq,Nat.beq_eq]at h<;>first|exact h.elim|skip
 all_goals first|(subst h;rfl)|rfl
def x_:∀{s a:aE CV},Hz s a=ao->∀l,zX s (I8 a++l)=(a,l)
 |[],[],_,l=>rfl
 |s::d,a::as,h,l=>by
  simp only[Hz,aM]at h;simp only[zX,I8,cg,adO h.1,x_ h.2]
 |[],_::_,h,_=>by cases h
 |_::_,[],h,_=>by cases h
def CQ:∀{s a:aE (aE CV)},Fy s a=ao->∀l,AO s (E' a++l)=(a,l)
 |[],[],_,l=>rfl
 |s::d,a::as,h,l=>by
  simp only[Fy,aM]at h;simp only[AO,E',cg,x_ h.1,CQ h.2]
 |[],_::_,h,_=>by cases h
 |_::_,[],h,_=>by cases h
def hAV:AV->aE gT
 |.i _ n=>[.I n]|.b x=>[.B x]|.s x=>[.S x]|.sh _ xs=>[.R xs]|.vw _ lo hi=>[.N lo,.N hi]|.rp _ i _=>[.N i]
 |.sp _ xs i _=>[.R xs,.N i]|.mK _ i _=>[.N i]|.ip _ i _ d _=>[.N i,.N d]|.fn _ a=>E' a|.fp xs _=>I8 xs|_=>[]
def YF:AV->AV->aZ
 |.i k _,.i k' _=>ah (k=k')|.b _,.b _=>ao|.s _,.s _=>ao|.sh e _,.sh h _=>bN e h|.nl,.nl=>ao
 |.own n,.own d=>bN n d|.vw n _ _,.vw d _ _=>bN n d|.bp n j,.bp d a=>bN n d&&bN j a|.rp n _ j,.rp d _ a=>bN n d&&bN j a
 |.sp e _ _ j,.sp h _ _ a=>bN e h&&bN j a|.mK n _ j,.mK d _ a=>bN n d&&bN j a
 |.ip n _ j _ q,.ip d _ a _ m=>bN n d&&bN j a&&bN q m|.fn f c,.fn f' c'=>bN f f'&&Fy c c'|.fp c j,.fp c' a=>bN j a&&Hz c c'
 |_,_=>aq
def fAV(s:AV)(l:aE gT):AV×aE gT:=
 match s with
 |.i k _=>(.i k (gI l),l.tail)|.b _=>(.b (gB l),l.tail)|.s _=>(.s (gS l),l.tail)|.sh e _=>(.sh e (gR l),l.tail)
 |.vw n _ _=>(.vw n (gN l) (gN l.tail),l.tail.tail)|.rp n _ j=>(.rp n (gN l) j,l.tail)|.sp e _ _ j=>(.sp e (gR l) (gN l.tail) j,l.tail.tail)
 |.mK n _ j=>(.mK n (gN l) j,l.tail)|.ip n _ j _ q=>(.ip n (gN l) j (gN l.tail) q,l.tail.tail)|.fn f c=>(.fn f (AO c l).1,(AO c l).2)|.fp c j=>(.fp (zX c l).1 j,(zX c l).2)
 |a=>(a,l)
def Pg:aE AV->aE gT|[]=>[]|a::r=>hAV a++Pg r
def LF:aE AV->aE AV->aZ|[],[]=>ao|a::r,b::t=>YF a b&&LF r t|_,_=>aq
def CP:aE AV->aE gT->aE AV×aE gT
 |[],l=>([],l)|a::r,l=>((fAV a l).1::(CP r (fAV a l).2).1,(CP r (fAV a l).2).2)
def Wu(a b:aZ):aZ:=bif a then b else !b
def WG:aE (aZ×aE AV)->aE gT|[]=>[]|(_,xs)::r=>Pg xs++WG r
def Uj:aE (aZ×aE AV)->aE (aZ×aE AV)->aZ
 |[],[]=>ao|(g,xs)::r,(a,d)::t=>Wu g a&&LF xs d&&Uj r t|_,_=>aq
def O8:aE (aZ×aE AV)->aE gT->aE (aZ×aE AV)×aE gT
 |[],l=>([],l)|(g,xs)::r,l=>((g,(CP xs l).1)::(O8 r (CP xs l).2).1,(O8 r (CP xs l).2).2)
def Ph:e9->aE gT
 |.v (.v _ xs)=>Pg xs|.v (.kz l)=>WG l|.o (.box xs)=>Pg xs|.o (.ov cs)=>I8 cs|.o (.row _ _ xs)=>[.R xs]|.o (.f_ _ xs)=>[.R xs]|_=>[]
def YH:e9->e9->aZ
 |.v (.v g xs),.v (.v f d)=>Wu g f&&LF xs d|.v (.kz l),.v (.kz r)=>Uj l r|.v .un,.v .un=>ao
 |.o (.box xs),.o (.box d)=>LF xs d|.o (.ov c),.o (.ov c')=>Hz c c'|.o (.row e x _),.o (.row a h _)=>bN e a&&Wu x h|.o (.f_ e _),.o (.f_ a _)=>bN e a
 |.o .dead,.o .dead=>ao|.jW,.jW=>ao|_,_=>aq
def KO(c:e9)(l:aE gT):e9×aE gT:=
 match c with
 |.v (.v g xs)=>(.v (.v g (CP xs l).1),(CP xs l).2)|.v (.kz r)=>(.v (.kz (O8 r l).1),(O8 r l).2)
 |.o (.box xs)=>(.o (.box (CP xs l).1),(CP xs l).2)|.o (.ov c)=>(.o (.ov (zX c l).1),(zX c l).2)|.o (.row e x _)=>(.o (.row e x (gR l)),l.tail)|.o (.f_ e _)=>(.o (.f_ e (gR l)),l.tail)
 |c=>(c,l)
def I_:aE (aN×e9)->aE gT|[]=>[]|(_,c)::r=>Ph c++I_ r
def Ap:aE (aN×e9)->aE (aN×e9)->aZ
 |[],[]=>ao|(k,c)::r,(k',c')::t=>bN k k'&&YH c c'&&Ap r t|_,_=>aq
def Nj:aE (aN×e9)->aE gT->aE (aN×e9)
 |[],_=>[]|(k,c)::r,l=>(k,(KO c l).1)::Nj r (KO c l).2
def CN(h:Wu a b=ao):a=b:=by cases a<;>cases b<;>first|rfl|cases h
def adN(h:YF s a=ao)(l:aE gT):fAV s (hAV a++l)=(a,l):=by
 match s,a,h with
 |.fn f c,.fn f' c',h=>simp only[YF,aM]at h;have h1:=aX h.1;subst h1;simp only[fAV,hAV,CQ h.2]
 |.fp c j,.fp c' m,h=>simp only[YF,aM]at h;have h1:=aX h.1;subst h1;simp only[fAV,hAV,x_ h.2]
 |.i k _,.i k' _,h=>have h1:=cB (show ah (k=k')=ao from h);subst h1;rfl
 |.b _,.b _,_=>rfl
 |.s _,.s _,_=>rfl
 |.sh e _,.sh o _,h=>have h1:=aX (show bN e o=ao from h);subst h1;rfl
 |.nl,.nl,_=>rfl
 |.own n,.own d,h=>have h1:=aX (show bN n d=ao from h);subst h1;rfl
 |.vw n _ _,.vw d _ _,h=>have h1:=aX (show bN n d=ao from h);subst h1;rfl
 |.bp n j,.bp d m,h=>simp only[YF,aM]at h;have h1:=aX h.1;have h2:=aX h.2;subst h1;subst h2;rfl
 |.rp n _ j,.rp d _ m,h=>simp only[YF,aM]at h;have h1:=aX h.1;have h2:=aX h.2;subst h1;subst h2;rfl
 |.sp n _ _ j,.sp d _ _ m,h=>simp only[YF,aM]at h;have h1:=aX h.1;have h2:=aX h.2;subst h1;subst h2;rfl
 |.mK n _ j,.mK d _ m,h=>simp only[YF,aM]at h;have h1:=aX h.1;have h2:=aX h.2;subst h1;subst h2;rfl
 |.ip n _ j _ q,.ip d _ m _ r,h=>simp only[YF,aM]at h;have h1:=aX h.1.1;have h2:=aX h.1.2;have h3:=aX h.2;subst h1;subst h2;subst h3;rfl
def B0:∀{s a:aE AV},LF s a=ao->∀l,CP s (Pg a++l)=(a,l)
 |[],[],_,l=>rfl
 |s::d,a::as,h,l=>by
  simp only[LF,aM]at h;simp only[CP,Pg,cg,adN h.1,B0 h.2]
 |[],_::_,h,_=>by cases h
 |_::_,[],h,_=>by cases h
def Nh:∀{s a:aE (aZ×aE AV)},Uj s a=ao->∀l,O8 s (WG a++l)=(a,l)
 |[],[],_,l=>rfl
 |(g,xs)::e,(d,f)::as,h,l=>by
  simp only[Uj,aM]at h;obtain⟨⟨h1,h2⟩,h3⟩:=h;have h1:=CN h1;subst h1;simp only[O8,WG,cg,B0 h2,Nh h3]
 |[],_::_,h,_=>by cases h
 |_::_,[],h,_=>by cases h
def Wz(h:YH s c=ao)(l:aE gT):KO s (Ph c++l)=(c,l):=by
 match s,c,h with
 |.v (.v g xs),.v (.v j a),h=>simp only[YH,aM]at h;have h1:=CN h.1;subst h1;simp only[KO,Ph,B0 h.2]
 |.v (.kz r),.v (.kz f),h=>simp only[KO,Ph,Nh (show Uj r f=ao from h)]
 |.v .un,.v .un,_=>rfl
 |.o (.box xs),.o (.box a),h=>simp only[KO,Ph,B0 (show LF xs a=ao from h)]
 |.o (.ov c),.o (.ov c'),h=>simp only[KO,Ph,x_ (show Hz c c'=ao from h)]
 |.o (.row e x _),.o (.row d m _),h=>simp only[YH,aM]at h;have h1:=CN h.2;have h2:=aX h.1;subst h1;subst h2;rfl
 |.o (.f_ e _),.o (.f_ d _),h=>have h2:=aX h;subst h2;rfl
 |.o .dead,.o .dead,_=>rfl
 |.jW,.jW,_=>rfl
def I1:∀{S L:aE (aN×e9)},Ap S L=ao->Nj S (I_ L)=L
 |[],[],_=>rfl
 |(k,s)::S,(k',c)::L,h=>by
  simp only[Ap,aM]at h;obtain⟨⟨h1,h2⟩,h3⟩:=h;have h1:=aX h1;subst h1;simp only[Nj,I_,Wz h2,I1 h3]
 |[],_::_,h=>by cases h
 |_::_,[],h=>by cases h
def tell{R:Type}(S:aE (aN×e9))(H:aE gT->aG R)(L:aE (aN×e9))(a:aG R):aG R:=bif Ap S L then H (I_ L)else a
def S9:aE (aN×aE aN)->aN->aE aN
 |[],_=>[]|(k,l)::r,n=>bif bN n k then l else S9 r n
def ajD:aE (aN×aN×Om)->aN->aN->Om
 |[],_,_=>.nat|(q,j,o)::r,n,m=>bif bN n q&&bN m j then o else ajD r n m
def Tj:aE (aN×aN)->aN->aN->aZ
 |[],_,_=>aq|(f,p)::r,n,m=>(bN n f&&bN m p)||Tj r n m
def ajM:aE (aN×aN)->aN->aG aN
 |[],_=>ay|(k,e)::r,n=>bif bN n k then ai e else ajM r n
def bC{p:Code->Prop}:∀c∈([]:aE Code),p c:=λc h=>by cases h
def bh{p:Code->Prop}{c:Code}{l:aE Code}(h:p c)(hl:∀d∈l,p d):∀d∈c::l,p d:=λd hd=>by
 rcases cF.1 hd with rfl|hd
 ·exact h
 ·exact hl d hd
def qI:aE (aN×(aE gD->aG (aZ×iO)))->aN->aE gD->aG (aZ×iO)
 |[],_,_=>ay
 |(k,s)::r,g,a=>bif bN g k then(match s a with|some x=>ai x|none=>qI r g a)else qI r g a
def a6:∀g,lI P T g (qI [] g):=λg=>O_ λ_=>rfl
def aJ(h:lI P T k s)(hl:∀g,lI P T g (qI L g)):∀g,lI P T g (qI ((k,s)::L) g):=by
 intro g;cases f:bN g k with
 |true=>
  have:=aX f;subst this;intro args r d;unfold qI at d;rw[f,au]at d;cases hs:s args with
  |some x=>rw[hs]at d;exact h args r (hs.trans d)
  |none=>rw[hs]at d;exact hl g args r d
 |false=>
  have e:qI ((k,s)::L) g=qI L g:=by funext a;simp only[qI,f,ax]
  rw[e];exact hl g
def Yp(T:Tab)(md:aE (aN×aN))(cs:aE (aN×(aE gD->aG (aZ×iO))))(ks:aE (aN×aE aN))(tk:aE aN)(om:aE (aN×aN×Om)):gy:={toTab:=T,call:=qI cs,mode:=Tj md,keep:=S9 ks,tk:=λn=>mJ n tk,om:=ajD om}
end Go.FG
namespace Go.FG
def LU(h:po T (t::ts) a):∃e d,a=e::d/\(∃ti,T.ty t=ai ti/\e.map CV.kd=ti.ks)/\(∀y∈e,rR T y)/\po T ts d:=by
 cases a with
 |nil=>exact h.elim
 |cons e a=>exact⟨e,a,rfl,h.1,h.2.1,h.2.2⟩
def Qc(h:po T [] a):a=[]:=by
 cases a with
 |nil=>rfl
 |cons=>exact h.elim
def W2(h:d.map CV.kd=k::ks)(e:∀y∈d,rR T y):∃y a,d=y::a/\y.kd=k/\rR T y/\a.map CV.kd=ks/\∀y∈a,rR T y:=by
 cases d with
 |nil=>cases h
 |cons y d=>rw[fD,ZD]at h;exact⟨y,d,rfl,h.1,e y (cQ ..),h.2,λz f=>e z (cK _ f)⟩
def aeb(h:a.map CV.kd=[]):a=[]:=by simpa using h
def ank(h:y.kd=.l e)(a:rR T y):∃xs,y=.l e xs/\rR T (.l e xs):=by cases y<;>simp[CV.kd]at h;subst h;exact⟨_,rfl,a⟩
def iE(h1: -9223372036854775808<=x)(h2:x<=9223372036854775807):bA x=x:=by
 have e:bA x=if(ah (x%18446744073709551616≥9223372036854775808))=ao then x%18446744073709551616-18446744073709551616 else x%18446744073709551616:=rfl
 rw[e];by_cases h:x%18446744073709551616≥9223372036854775808
 ·rw[bm (aA h)];omega
 ·rw[bk (by simpa using h)];omega
end Go.FG
namespace Go.FG
inductive Ho where|I|B|S|R|N
abbrev den:Ho->Type
 |.I=>az|.B=>aZ|.S=>ar|.R=>Row|.N=>aN
abbrev Fn:aE Ho->Type->Type
 |[],A=>A|h::s,A=>den h->Fn s A
abbrev Tu:aE Ho->Type
 |[]=>Unit|h::s=>den h×Tu s
abbrev Pr:aE Ho->Type
 |[]=>Unit|[h]=>den h|h::s=>den h×Pr s
def df:(h:Ho)->den h
 |.I=>(0:az)|.B=>aq|.S=>(⟨#[]⟩:ar)|.R=>([]:Row)|.N=>(0:aN)
def lf:(h:Ho)->den h->gT
 |.I,x=>.I x|.B,x=>.B x|.S,x=>.S x|.R,x=>.R x|.N,x=>.N x
def ap{A:Type}:(s:aE Ho)->Fn s A->Tu s->A
 |[],f,_=>f|_::s,f,x=>ap s (f x.1) x.2
def cmp{A B:Type}:(s:aE Ho)->Fn s A->(A->B)->Fn s B
 |[],f,g=>g f|_::s,f,g=>λy=>cmp s (f y) g
def Nb{A:Type}:(s:aE Ho)->Fn s A->A
 |[],f=>f|h::s,f=>Nb s (f (df h))
def lv:(s:aE Ho)->Tu s->aE gT
 |[],_=>[]|h::s,x=>lf h x.1::lv s x.2
def Wg{A:Type}:(s:aE Ho)->Fn s (aG A)->aE gT->aG A
 |[],f,[]=>f
 |.I::s,f,.I x::l=>Wg s (f x) l|.B::s,f,.B x::l=>Wg s (f x) l|.S::s,f,.S x::l=>Wg s (f x) l
 |.R::s,f,.R x::l=>Wg s (f x) l|.N::s,f,.N x::l=>Wg s (f x) l
 |_,_,_=>ay
def kz:(s:aE Ho)->Fn s (Pr s)
 |[]=>()|[_]=>λx=>x|_::h::s=>λx=>cmp (h::s) (kz (h::s)) λp=>(x,p)
def ZH{A:Type}:(s:aE Ho)->Fn s A->Pr s->A
 |[],f,_=>f|[_],f,p=>f p|_::h::s,f,p=>ZH (h::s) (f p.1) p.2
def CA{A:Type}{s:aE Ho}{f:Fn s (aG A)}{l:aE gT}{a:A}(h:Wg s f l=ai a):∃x,l=lv s x/\ap s f x=ai a:=by
 induction s generalizing l with
 |nil=>cases l with
  |nil=>exact⟨(),rfl,h⟩
  |cons=>cases h
 |cons k s ih=>
  cases l with
  |nil=>cases k<;>cases h
  |cons y l=>cases k<;>cases y<;>first|(obtain⟨x,rfl,d⟩:=ih h;exact⟨(_,x),rfl,d⟩)|cases h
def CB(f:Fn s A)(g:A->B)(x:Tu s):ap s (cmp s f g) x=g (ap s f x):=by
 induction s with
 |nil=>rfl
 |cons k s ih=>exact ih _ _
def adr{A:Type}{s:aE Ho}{f g:Fn s A}(h:∀x,ap s f x=ap s g x):f=g:=by
 induction s with
 |nil=>exact h ()
 |cons k s ih=>exact funext λy=>ih λx=>h (y,x)
def Wh(f:Fn s A)(x:Tu s):ZH s f (ap s (kz s) x)=ap s f x:=by
 induction s with
 |nil=>rfl
 |cons k s ih=>
  cases s with
  |nil=>rfl
  |cons h s=>exact(gu (ZH (k::h::s) f) (CB ..)).trans (ih ..)
def hAA:AA->aE gT
 |.i _ n=>[.I n]|.b x=>[.B x]|.s x=>[.S x]|.sh _ xs=>[.R xs]|.ow _ _ xs=>[.R xs]|.kp xs=>[.R xs]|.fn _ c=>E' c|.nl=>[]
def sAA:AA->AA->aZ
 |.i k _,.i k' _=>ah (k=k')|.b _,.b _=>ao|.s _,.s _=>ao|.sh e _,.sh a _=>bN e a|.ow e x _,.ow a d _=>bN e a&&Wu x d
 |.kp _,.kp _=>ao|.fn f c,.fn f' c'=>bN f f'&&Fy c c'|.nl,.nl=>ao|_,_=>aq
def fAA(s:AA)(l:aE gT):AA×aE gT:=
 match s with
 |.i k _=>(.i k (gI l),l.tail)|.b _=>(.b (gB l),l.tail)|.s _=>(.s (gS l),l.tail)|.sh e _=>(.sh e (gR l),l.tail)|.ow e x _=>(.ow e x (gR l),l.tail)
 |.kp _=>(.kp (gR l),l.tail)|.fn f c=>(.fn f (AO c l).1,(AO c l).2)|.nl=>(.nl,l)
def KX:aE AA->aE gT|[]=>[]|a::r=>hAA a++KX r
def LD:aE AA->aE AA->aZ|[],[]=>ao|a::r,b::t=>sAA a b&&LD r t|_,_=>aq
def IY:aE AA->aE gT->aE AA×aE gT
 |[],l=>([],l)|a::r,l=>((fAA a l).1::(IY r (fAA a l).2).1,(IY r (fAA a l).2).2)
def KY:gD->aE gT
 |.v _ xs=>KX xs|.pt xs=>KX xs|.fb xs=>I8 xs
def P':gD->gD->aZ
 |.v g xs,.v d a=>Wu g d&&LD xs a|.pt xs,.pt a=>LD xs a|.fb xs,.fb a=>Hz xs a|_,_=>aq
def KN(s:gD)(l:aE gT):gD×aE gT:=
 match s with
 |.v g xs=>(.v g (IY xs l).1,(IY xs l).2)|.pt xs=>(.pt (IY xs l).1,(IY xs l).2)|.fb xs=>(.fb (zX xs l).1,(zX xs l).2)
def hAr:aE gD->aE gT|[]=>[]|a::r=>KY a++hAr r
def YG:aE gD->aE gD->aZ|[],[]=>ao|a::r,b::t=>P' a b&&YG r t|_,_=>aq
def Wx:aE gD->aE gT->aE gD×aE gT
 |[],l=>([],l)|a::r,l=>((KN a l).1::(Wx r (KN a l).2).1,(Wx r (KN a l).2).2)
def Jr(l:aE (aE AA)):aE gD:=l.map (.v ao)
def adM(h:sAA s a=ao)(l:aE gT):fAA s (hAA a++l)=(a,l):=by
 cases s<;>cases a<;>simp only[sAA,ba,dq,Nat.beq_eq,aM]at h<;>first|exact h.elim|skip
 all_goals first|rfl|(subst h;rfl)|(obtain⟨rfl,h⟩:=h;first|(obtain rfl:=CN h;rfl)|(simp only[fAA,hAA,CQ h]))
def G2:∀{s a:aE AA},LD s a=ao->∀l,IY s (KX a++l)=(a,l)
 |[],[],_,l=>rfl
 |s::d,a::as,h,l=>by
  simp only[LD,aM]at h;simp only[IY,KX,cg,adM h.1,G2 h.2]
def Wy(h:P' s a=ao)(l:aE gT):KN s (KY a++l)=(a,l):=by
 cases s<;>cases a<;>simp only[P',dq,aM]at h
 ·obtain⟨h1,h⟩:=h;obtain rfl:=CN h1;simp only[KN,KY,G2 h]
 ·simp only[KN,KY,G2 h]
 ·simp only[KN,KY,x_ h]
def KM:∀{s a:aE gD},YG s a=ao->∀l,Wx s (hAr a++l)=(a,l)
 |[],[],_,l=>rfl
 |s::d,a::as,h,l=>by
  simp only[YG,aM]at h;simp only[Wx,hAr,cg,Wy h.1,KM h.2]
def Sv(h:YG s a=ao):(Wx s (hAr a)).1=a:=by have:=KM h [];rw[d_]at this;rw[this]
def xAA{B:Type}(s a:AA)(k:aE gT->aG B):aG B:=
 match s,a with
 |.i h _,.i j n=>bif ah (h=j)then k [.I n]else ay
 |.b _,.b n=>k [.B n]
 |.s _,.s n=>k [.S n]
 |.sh e _,.sh d n=>bif bN e d then k [.R n]else ay
 |.ow e x _,.ow d m n=>bif bN e d&&Wu x m then k [.R n]else ay
 |.kp _,.kp n=>k [.R n]
 |.fn f c,.fn f' c'=>bif bN f f'&&Fy c c' then k (E' c')else ay
 |.nl,.nl=>k []
 |_,_=>ay
def Vh{B:Type}:aE AA->aE AA->(aE gT->aG B)->aG B
 |[],[],k=>k []|s::d,a::as,k=>xAA s a λl=>Vh d as λr=>k (l++r)|_,_,_=>ay
def afH{B:Type}(s a:gD)(k:aE gT->aG B):aG B:=
 match s,a with
 |.v g xs,.v e d=>bif Wu g e then Vh xs d k else ay
 |.pt xs,.pt d=>Vh xs d k
 |.fb xs,.fb d=>bif Hz xs d then k (I8 d)else ay
 |_,_=>ay
def xAr{B:Type}:aE gD->aE gD->(aE gT->aG B)->aG B
 |[],[],k=>k []|s::d,a::as,k=>afH s a λl=>xAr d as λr=>k (l++r)|_,_,_=>ay
def afG(s a:AA)(k:aE gT->aG B):xAA s a k=bif sAA s a then k (hAA a)else none:=by cases s<;>cases a<;>rfl
def OB:∀(s a:aE AA) (k:aE gT->aG B),Vh s a k=bif LD s a then k (KX a)else ay
 |[],[],_=>rfl
 |s::d,a::as,k=>by
  simp only[Vh,afG,OB d as,LD,KX];cases sAA s a<;>rfl
 |[],_::_,_=>rfl
 |_::_,[],_=>rfl
def Y0(s a:gD)(k:aE gT->aG B):afH s a k=bif P' s a then k (KY a)else none:=by
 cases s<;>cases a<;>simp only[afH,P',KY,OB]<;>try rfl
 rename_i g xs d e;cases Wu g d<;>rfl
def HV:∀(s a:aE gD) (k:aE gT->aG B),xAr s a k=bif YG s a then k (hAr a)else ay
 |[],[],_=>rfl
 |s::d,a::as,k=>by
  simp only[xAr,Y0,HV d as,YG,hAr];cases P' s a<;>rfl
 |[],_::_,_=>rfl
 |_::_,[],_=>rfl
def acI{A:Type}(s:aE Ho)(T:Fn s (aE gD))(f:Fn s (aG A))(a:aE gD):aG A:=xAr (Nb s T) a (Wg s f)
def afI(s t:aE Ho)(k:Fn t iO)(c:Fn s aZ)(v:Fn s (Pr t)):Fn s (aG (aZ×iO)):=
 match s with
 |[]=>ai (c,ZH t k v)
 |_::s=>λx=>afI s t k (c x) (v x)
def Y2(x:Tu s):ap s (afI s t k c v) x=ai (ap s c x,ZH t k (ap s v x)):=by
 induction s with
 |nil=>rfl
 |cons h s ih=>exact ih _
def dR{s t:aE Ho}(A:Fn s (aE gD))(k:Fn t iO)(c:Fn s aZ)(v:Fn s (Pr t)):aE gD->aG (aZ×iO):=acI s A (afI s t k c v)
def Wn{t:aE Ho}(k:Fn t iO)(r:iO):aG (Pr t):=
 xAr (Nb t k).rs r.rs λl=>xAr (Jr (Nb t k).outs) (Jr r.outs) λm=>Wg t (cmp t (kz t) ai) (l++m)
def okA{s:aE Ho}(A:Fn s (aE gD)):Prop:=∀x,(Wx (Nb s A) (lv s x)).1=ap s A x
def okK{t:aE Ho}(k:Fn t iO):Prop:=∀x,(⟨(Wx (Nb t k).rs (lv t x)).1,(Wx (Jr (Nb t k).outs) (Wx (Nb t k).rs (lv t x)).2).1⟩:aE gD×aE gD)=⟨(ap t k x).rs,Jr (ap t k x).outs⟩
def okT{s:aE Ho}(T:Fn s (aE (aN×e9))):Prop:=∀x,Nj (Nb s T) (lv s x)=ap s T x
def Js:∀{a b:aE (aE AA)},Jr a=Jr b->a=b
 |[],[],_=>rfl
 |_::_,_::_,h=>by
  obtain⟨h1,h2⟩:=JU h;obtain⟨_,rfl⟩:=gD.v.inj h1;rw[Js h2]
 |[],_::_,h=>by cases h
 |_::_,[],h=>by cases h
def O4{t:aE Ho}{k:Fn t iO}(hk:okK k){r:iO}{p:Pr t}(h:Wn k r=ai p):r=ZH t k p:=by
 unfold Wn at h;rw[HV]at h;cases a:YG (Nb t k).rs r.rs with
 |false=>rw[a]at h;cases h
 |true=>
  rw[a,au,HV]at h;cases d:YG (Jr (Nb t k).outs) (Jr r.outs)with
  |false=>rw[d]at h;cases h
  |true=>rw[d,au]at h;obtain⟨x,h1,h2⟩:=CA h;rw[CB]at h2;obtain rfl:=aL h2;rw[Wh];have j:=hk x;rw[<-h1,KM a,Sv d]at j;obtain⟨e,m⟩:=bX j;have f:=Js m;cases r;cases o:ap t k x;rw[o]at e f;cases e;cases f;rfl
def DB{s t:aE Ho}{A:Fn s (aE gD)}(d:okA A){k:Fn t iO}{c:Fn s aZ}{v:Fn s (Pr t)}{args:aE gD}{r:aZ×iO}(h:dR A k c v args=ai r):∃x,args=ap s A x/\r=(ap s c x,ZH t k (ap s v x)):=by
 unfold dR acI at h;rw[HV]at h;cases a:YG (Nb s A) args with
 |false=>rw[a]at h;cases h
 |true=>rw[a,au]at h;obtain⟨x,h1,h2⟩:=CA h;rw[Y2]at h2;exact⟨x,by rw[<-d x,<-h1,Sv a],(aL h2).symm⟩
def CF{t:aE Ho}(E:gy)(it:It (Pr t))(F:Func)(k:Fn t iO)(args:aE gD):aG (Pr t):=
 match F.body with
 |some c=>ub E it c (inj args) λe σ=>(fin E F args e σ).bind (Wn k)
 |none=>ay
def II(F:Func)(A:aE gD):aZ:=
 (match F.body with|some c=> !(F.name== "runtime.NumGoroutine")&&tZ F.ntmps c|none=>aq)&&Aq A&&e6 A.length F.ntmps
def flh{P:dx}{E:gy}(hE:eB P E)(hm:P.follows .mixedOrders=ao)(z:∀g,lI P E g (E.call g)){g:aN}{F:Func}(m:P.funcs[g]? =ai F){s t:aE Ho}{A:Fn s (aE gD)}{k:Fn t iO}{it:aN->It (Pr t)}
  (y:∀x,II F (ap s A x)=ao) {l:aE Code} (hl:j8 (F.body.getD .skip)=l) (o:∀N,∀c∈l,b0 E (it N) c) (u:okA A) (hk:okK k)
  {c:Fn s aZ} {v:Fn s (Pr t)} (h:∀x,yh (ap s A x)->ap s c x=ao->∃N,CF E (it N) F k (ap s A x)=ai (ap s v x)):lI P E g (dR A k c v):=by
 intro args r d;obtain⟨x,rfl,_⟩:=DB u d;have a:=y x;unfold II at a;cases j:F.body with
 |none=>rw[j]at a;cases a
 |some f=>
  rw[j]at hl a;have hl:j8 f=l:=hl;simp only[aM,di]at a;refine adR hE z hm m j (by rw[a.1.1.1,a.1.1.2];rfl) (λargs r d=> ?_) _ r d;obtain⟨x,rfl,hq⟩:=DB u d;obtain⟨h1,rfl⟩:=bX hq;have a:=y x;unfold II at a;simp only[aM]at a;refine⟨a.1.2,λm=> ?_⟩
  obtain⟨N,h⟩:=h x m h1.symm;refine⟨b8 a.2,Pr t,it N,λe σ=>(fin E F (ap s A x) e σ).bind (Wn k),ap s v x,by rw[hl];exact o N,?_,λe σ B=> ?_⟩
  ·unfold CF at h;rw[j]at h;exact h
  ·obtain⟨r,d,hd⟩:=Option.bind_eq_some_iff.1 B;rw[d,O4 hk hd]
def ads{s t:aE Ho}{c:Fn s aZ}{v:Fn s (Pr t)}{w:Fn s (aG (Pr t))}{d:Pr t}(a:cmp s w nK=c)(e:cmp s w (λo=>o.getD d)=v)(x:Tu s)(h:ap s c x=ao):ap s w x=ai (ap s v x):=by
 subst a e;rw[CB]at h;rw[CB];cases hw:ap s w x with
 |none=>rw[hw]at h;cases h
 |some y=>rfl
def fl{P:dx}{E:gy}(hE:eB P E)(hm:P.follows .mixedOrders=ao)(f:∀g,lI P E g (E.call g)){g:aN}{F:Func}(m:P.funcs[g]? =ai F){s t:aE Ho}{A:Fn s (aE gD)}{k:Fn t iO}{it:aN->It (Pr t)}
  (j:∀x,II F (ap s A x)=ao) {l:aE Code} (hl:j8 (F.body.getD .skip)=l) (a:∀N,∀c∈l,b0 E (it N) c) (e:okA A) (hk:okK k)
  {c:Fn s aZ} {v:Fn s (Pr t)} {w:aN->Fn s (aG (Pr t))} {u:Fn s (aG (Pr t))} {d:Pr t} (N:aN) (h:∀N x,CF E (it N) F k (ap s A x)=ap s (w N) x) (hw:w N=u) (h1:cmp s u nK=c) (h2:cmp s u (λo=>o.getD d)=v):lI P E g (dR A k c v):=
 flh hE hm f m j hl a e hk λx _ r=>⟨N,(h N x).trans (by rw[hw];exact ads h1 h2 x r)⟩
def ct:(s:aE Ho)->Fn s aZ
 |[]=>ao|_::s=>λ_=>ct s
abbrev Kt(R:Type):=Ex->St->aG R
abbrev Tb:=aE (aN×e9)
def J{R:Type}{s:aE Ho}(T:Fn s Tb)(e:Ex)(K:Kt R):Fn s (aG R):=cmp s T λt=>K e (eW t)
def al{R:Type}{s:aE Ho}(T:Fn s Tb)(f:Kt R->Fn s (aG R))(o:Tb->Kt R->aG R):Tb->Kt R->aG R:=λL K=>bif Ap (Nb s T) L then Wg s (f K) (I_ L)else o L K
def an{R:Type}:Tb->Kt R->aG R:=λ_ _=>ay
def lp{R:Type}(n:aN)(a:Tb->Kt R->aG R)(o:It R):It R:=λd f cn L K=>bif bN d n then a L K else o d f cn L K
def ln{R:Type}:It R:=λ_ _ _ _ _=>ay
def We{R:Type}{s:aE Ho}{T:Fn s Tb}(d:okT T){f:Kt R->Fn s (aG R)}{o:Tb->Kt R->aG R}{L:Tb}{K:Kt R}{r:R}(h:al T f o L K=ai r):(∃x,L=ap s T x/\ap s (f K) x=ai r)\/o L K=ai r:=by
 unfold al at h;cases a:Ap (Nb s T) L with
 |false=>rw[a]at h;exact .inr h
 |true=>rw[a]at h;obtain⟨x,h1,h2⟩:=CA h;exact .inl ⟨x,by rw[<-d x,<-h1,I1 a],h2⟩
section
variable {R:Type} {E:gy} {it:It R} {C:Code} {n:aN}
def Good(E:gy)(it:It R)(C:Code)(n:aN)(a:Tb->Kt R->aG R):Prop:=∀L K r,a L K=ai r->∃m,iter (ub E it C) (canon (E.AR n)) m (eW L) K=ai r
def Wd(E:gy)(it:It R)(C:Code)(n:aN)(K:Kt R){s:aE Ho}(T:Fn s Tb)(l:aN->Fn s (aG R)):Prop:=∀m x,iter (ub E it C) (canon (E.AR n)) m (eW (ap s T x)) K=ap s (l m) x
def mV:Good E it C n an:=λ_ _ _ h=>by cases h
def Nw{s:aE Ho}{T:Fn s Tb}(a:okT T){l:Kt R->aN->Fn s (aG R)}{N:aN}{o:Tb->Kt R->aG R}(h:∀K,Wd E it C n K T (l K))(d:Good E it C n o):Good E it C n (al T (λK=>l K N) o):=by
 intro L K r hq;rcases We a hq with ⟨x,rfl,e⟩|hq
 ·exact⟨N,(h K N x).trans e⟩
 ·exact d L K r hq
def lom(n:aN)(d:gL C=n)(hi:∀L K,it n (ub E it C) (canon (E.AR n)) L K=a L K)(h:Good E it C n a):b0 E it C:=by intro L K q;rw[d,hi];exact h L K q
def wf{K:Kt R}{s:aE Ho}{T:Fn s Tb}{l:aN->Fn s (aG R)}{m:aN}(h:∀x,iter (ub E it C) (canon (E.AR n)) m (eW (ap s T x)) K=ap s (l m) x):cmp s T (λt=>iter (ub E it C) (canon (E.AR n)) m (eW t) K)=l m:=
 adr λy=>by rw[CB,h]
def wl{K:Kt R}{s:aE Ho}{T:Fn s Tb}{l:aN->Fn s (aG R)}(r:(St->aG R)->Fn s (aG R))(h0:∀x,ap s (l 0) x=ay)
  (h1:∀m,(∀x,iter (ub E it C) (canon (E.AR n)) m (eW (ap s T x)) K=ap s (l m) x)->r (λσ=>iter (ub E it C) (canon (E.AR n)) m σ K)=l (m+1))
  (h:∀g x,ub E it C (eW (ap s T x)) (Fc g (canon (E.AR n)) K)=ap s (r g) x):Wd E it C n K T l:=by
 intro m;induction m with
 |zero=>intro x;rw[h0];rfl
 |succ m ih=>intro x;rw[Pt,h,h1 m ih]
def lo1(n:aN)(T:Fn s Tb)(d:gL C=n)(a:okT T)(l:Kt R->aN->Fn s (aG R))(r:Kt R->Fn s (aG R)->Fn s (aG R))
  (hi:∀L K,it n (ub E it C) (canon (E.AR n)) L K=al T (λK=>l K N) an L K) (h0:∀K x,ap s (l K 0) x=ay) (h1:∀K n,l K (n+1)=r K (l K n))
  (h:∀K g x,ub E it C (eW (ap s T x)) (Fc g (canon (E.AR n)) K)=ap s (r K (cmp s T λt=>g (eW t))) x):b0 E it C:=
 lom n d hi (Nw a (λK=>wl (λg=>r K (cmp s T λt=>g (eW t))) (h0 K) (λm i=>by rw[h1];exact gu (r K) (wf i)) (h K)) mV)
end
end Go.FG
namespace Go.FG.Lib
def cw:aN:=18446744073709551616
def ic{α β:Type}(a:α)(f:α->β):β:=f a
def wB(h:o=ai x):nK o=ao/\ZF o d=x:=by rw[h];exact⟨rfl,rfl⟩
def some_(h:nK o=ao):o=ai (ZF o d):=by
 cases o with
 |none=>cases h
 |some x=>rfl
def gP(F:aN->σ->β)(d:σ->aN)(inv:σ->Prop)(res:σ->β)
  (step:∀n s,inv s->F (n+1) s=res s\/∃a,inv a/\d a<d s/\res a=res s/\F (n+1) s=F n a):∀n s,inv s->d s<n->F n s=res s:=by
 intro n;induction n with
 |zero=>intro s _ h;omega
 |succ n ih=>
  intro s hi hm;rcases step n s hi with h|⟨a,h1,h2,h3,h4⟩
  ·exact h
  ·rw[h4,<-h3];exact ih a h1 (by omega)
def dh(i n:aN):ah ((i:az)<(n:az))=ah (i<n):=by rw[b7];omega
def cm(i:aN):ah (0<=(i:az))=true:=by simp
def ES{i n:aN}(h:i<n):ah ((i:az)<(n:az))=true:=by simp;omega
def IQ{i n:aN}(h:¬i<n):ah ((i:az)<(n:az))=false:=by simp;omega
def dK(i:aN):aP (i:az)=i:=rfl
def cG{i n:aN}(h:i<n)(a:n<=9223372036854775807):bA ((i:az)+1)=((i+1:aN):az):=by rw[iE (by omega) (by omega)];omega
def o0{xs:Row}{i:aN}(h:i<xs.length):xs.getD i []=xs[i]:=by simp[eC,h]
def dB{xs:Row}{i j:aN}(h:i<xs.length):av xs i j=xs[i].getD j (.b aq):=by unfold av;rw[o0 h]
def jt(xs:Row)(i j:aN)(a:aE CV):(eH xs i j a).length=xs.length:=by unfold eH;simp
def fa(ks:aE Ck)(n:aN):(aR ks n).length=n:=by unfold aR;simp
def b6(h:n*b<=140737488355328)(h2:n<=9223372036854775807):b_ n b=true:=by unfold b_;simp;omega
def HC{xs:Row}{i j:aN}{a:aE CV}(h:i<xs.length):eH xs i j a=xs.set i (kG xs[i] j a):=by unfold eH;rw[o0 h]
def mR{x:Row}{i:aN}(h:i<x.length):x.drop i=x[i]::x.drop (i+1):=cJ h
def up:az->aN->az|k,0=>k|k,n+1=>up (bA (k+1)) n
def L4(h:0<=x):bA x<=x:=by
 have e:bA x=if(ah (x%18446744073709551616≥9223372036854775808))=ao then x%18446744073709551616-18446744073709551616 else x%18446744073709551616:=rfl
 rw[e];split<;>omega
def vb(x:az):Row:=
 if x>127 then [CV.i a8 (bG a8 (bA (bQ x 128+128)))]::vb (bA (cz x 128))else [[CV.i a8 (bG a8 x)]]
termination_by x.toNat
decreasing_by
 rename_i h
 have h1:cz x 128=x/128:=d' (by omega)
 have h2:=L4 (x:=cz x 128) (by omega)
 omega
def sP(h:x>127):vb x=[CV.i a8 (bG a8 (bA (bQ x 128+128)))]::vb (bA (cz x 128)):=by rw[vb,bm h]
def k_(h:¬x>127):vb x=[[CV.i a8 (bG a8 x)]]:=by rw[vb,bk h]
def sJ(h:n<=140737488355328):b_ n 1=true:=b6 (by omega) (by omega)
def gO(y:aE CV)(ks:aE Ck):(aC (aR ks 1) 0 y)=[y]:=rfl
def Ce(F:aN->az->Row->aG R)(k:ar->aG R)
  (h1:∀n x acc,x>127->acc.length<=100->F (n+1) x acc=F n (bA (cz x 128)) (acc++[[CV.i a8 (bG a8 (bA (bQ x 128+128)))]]))
  (h2:∀n x acc,¬x>127->acc.length<=100->F (n+1) x acc=k (bytesOf (acc++[[CV.i a8 (bG a8 x)]]))) (x:az) (u:x<=9223372036854775807):F (x.toNat+1) x []=k (bytesOf (vb x)):=by
 have:=gP (λn (s:az×Row)=>F n s.1 s.2) (λs=>s.1.toNat) (λs=>s.2.length<=100/\(1<=s.1->2^s.2.length*s.1<=9223372036854775808)) (λs=>k (bytesOf (s.2++vb s.1))) (λn s hs=>by
  obtain⟨x,acc⟩:=s;obtain⟨hl,a⟩:=hs;dsimp only at hl a⊢;by_cases h:x>127
  ·right;have e:cz x 128=x/128:=d' (by omega);have hp:(1:az)<=2^acc.length:=by
    have:(0:az)<2^acc.length:=by exact Int.pow_pos (by omega)
    omega
   have r:x<=9223372036854775808:=by have h3:=a (by omega);have:1*x<=2^acc.length*x:=DX hp (by omega);omega
   have f:bA (cz x 128)=x/128:=by rw[e,iE (by omega) (by omega)]
   have j:acc.length<64:=by
    rcases rL acc.length 64 with d|d
    ·exact d
    ·exfalso;have h6:(2:az)^64<=2^acc.length:=by have:=Nat.pow_le_pow_right (n:=2) (by omega) d;exact_mod_cast this
     have m:=a (by omega);have h8:(2:az)^acc.length*1<=2^acc.length*x:=Cq (by omega) (by omega);have:(2:az)^64=18446744073709551616:=by decide
     omega
   refine⟨(bA (cz x 128),acc++[[CV.i a8 (bG a8 (bA (bQ x 128+128)))]]),⟨by simp;omega,λ_=> ?_⟩,by dsimp only;omega,?_,h1 n x acc h hl⟩
   ·dsimp only;rw[f,bU,bz,vd];have m:=a (by omega);have o:2*(x/128)<=x:=by omega
    have h8:(2:az)^acc.length*(2*(x/128))<=2^acc.length*x:=Cq o (by omega);rw[Int.mul_assoc];omega
   ·dsimp only;rw[sP h,cg];rfl
  ·left;rw[k_ h];exact h2 n x acc h hl) (x.toNat+1) (x,[]) ⟨by simp,λh=>by simp;omega⟩ (by dsimp only;omega)
 simpa using this
def G1{a b c:aN}{d:Decidable (a+b<=c)}(h:a+b<=c): @ah (a+b<=c) d=true:=aA h
def afs:∀(n:aN) (x:az),x<2^n->(vb x).length<=n+1:=by
 intro n;induction n with
 |zero=>intro x a;rw[k_ (by omega)];simp
 |succ n ih=>
  intro x a;by_cases h:x>127
  ·have d:cz x 128=x/128:=d' (by omega);have h2:=L4 (x:=cz x 128) (by omega);rw[sP h];have h3:bA (cz x 128)<2^n:=by rw[vd]at a;omega
   have:=ih _ h3;simp;omega
  ·rw[k_ h];simp
def ie(xs:Row):(bytesOf xs).size=xs.length:=by unfold bytesOf;simp[bf]
def iq(h:x<=9223372036854775807):(bytesOf (vb x)).size<=64:=by
 rw[ie];exact afs 63 x (by have:(2:az)^63=9223372036854775808:=by decide
                           omega)
def cj(a b:ar):(a++b).size=a.size+b.size:=dL
def lT(l:aE eJ):cD l l=true:=by
 induction l with
 |nil=>rfl
 |cons a l ih=>simp only[cD,ih,gE];exact beq_self_eq_true a
def zS(s:ar)(i:aN):fJ s i<256:=(s.data.getD i 0).toNat_lt
def rv(t:ar)(a:aN):aN->aN->az->az×az×aZ
 |0,_,_=>(0,0,aq)
 |f+1,j,n=>
  if a+j<t.size then
   (if(fJ t (a+j):az)>127 then rv t a f (j+1) (n+(fJ t (a+j):az)%128*128^j)
   else if(j>0/\fJ t (a+j)=0)\/n+(fJ t (a+j):az)%128*128^j>1000000000 then(0,0,aq)
   else(n+(fJ t (a+j):az)%128*128^j,((a+j+1:aN):az),ao))
  else(0,0,aq)
def sV(h:c=ao):(bif c then x else y)=x:=by rw[h];rfl
def Sd(h:c=aq):(bif c then x else y)=y:=by rw[h];rfl
def vJ(h:p): @decide p inst=true:=aA h
def CK(h:¬p): @decide p inst=false:=aD h
def num(t:ar):aN->aN->az
 |_,0=>0
 |a,k+1=>(fJ t a:az)%128+128*num t (a+1) k
def uW(t:ar):∀(k a:aN),0<=num t a k/\num t a k<128^k
 |0,a=>by simp[num]
 |k+1,a=>by
  have:=uW t k (a+1);simp only[num,vd];omega
def rz(t:ar):∀(k a:aN),num t a (k+1)=num t a k+(fJ t (a+k):az)%128*128^k
 |0,a=>by simp[num]
 |k+1,a=>by
  rw[num,rz t k (a+1),num,show a+1+k=a+(k+1)by omega,vd];rw[Int.mul_add,<-Int.add_assoc];congr 1;rw[Int.mul_comm 128,Int.mul_assoc]
def NP(t:ar):∀(k a:aN),(fJ t (a+k):az)%128≠0->1<=num t a (k+1)
 |0,a,h=>by simp[num]at h⊢;omega
 |k+1,a,h=>by
  rw[num];have:=NP t k (a+1) (by rw[show a+1+k=a+(k+1)by omega];exact h);omega
def Vb(t:ar):∀(k a:aN),(∀i,i<k->128<=fJ t (a+i))->fJ t (a+k)<128->(k=0\/fJ t (a+k)≠0)->num t a (k+1)<=9223372036854775807->vb (num t a (k+1))=(iT a (k+1)).map λi=>[CV.i a8 (fJ t i:az)]
 |0,a,_,h2,_,_=>by
  have e:num t a 1=(fJ t a:az):=by simp[num]at h2⊢;omega
  simp only[BJ]at h2;rw[e,k_ (by omega)];have hw:bG a8 (fJ t a:az)=(fJ t a:az):=by show(fJ t a:az)%256=_;omega
  rw[hw];rfl
 |k+1,a,h1,h2,h3,h4=>by
  have o:=zS t a;have h0:=h1 0 (by omega);rw[BJ]at h0;have d:fJ t (a+(k+1))≠0:=by rcases h3 with h3|h3;(·omega);exact h3
  have f:=NP t k (a+1) (by rw[show a+1+k=a+(k+1)by omega];omega);have e:num t a (k+1+1)=(fJ t a:az)%128+128*num t (a+1) (k+1):=rfl;rw[e]at h4⊢;have h:bQ ((fJ t a:az)%128+128*num t (a+1) (k+1)) 128=(fJ t a:az)%128:=by rw[dO (by omega)];omega
  have j:cz ((fJ t a:az)%128+128*num t (a+1) (k+1)) 128=num t (a+1) (k+1):=by rw[d' (by omega)];omega
  have m:bA ((fJ t a:az)%128+128)=(fJ t a:az):=by rw[iE (by omega) (by omega)];omega
  have hw:bG a8 (fJ t a:az)=(fJ t a:az):=by show(fJ t a:az)%256=_;omega
  rw[sP (by omega),h,j,m,hw,iE (by omega) (by omega),Vb t k (a+1) (λi hi=>by rw[show a+1+i=a+(i+1)by omega];exact h1 (i+1) (by omega)) (by rw[show a+1+k=a+(k+1)by omega];exact h2) (by rw[show a+1+k=a+(k+1)by omega];exact .inr d) (by omega)];rfl
def u5:∀(k:aN) (x:az),x<128^(k+1)->(vb x).length<=k+1
 |0,x,h=>by rw[k_ (by simp at h;omega)];simp
 |k+1,x,h=>by
  by_cases a:x>127
  ·have d:cz x 128=x/128:=d' (by omega);have h2:=L4 (x:=cz x 128) (by omega);rw[sP a];have h3:bA (cz x 128)<128^(k+1):=by rw[vd]at h;omega
   have:=u5 k _ h3;simp;omega
  ·rw[k_ a];simp
def IC(h:a+m<=t.size):(bytesOf ((iT a m).map λi=>[CV.i a8 (fJ t i:az)])).data.toList=(t.extract a (a+m)).data.toList:=by
 have h1:(bytesOf ((iT a m).map λi=>[CV.i a8 (fJ t i:az)])).data.toList=(iT a m).map λi=>t.data.getD i 0:=by unfold bytesOf;simp[bO,fJ]
 rw[h1];apply Vq;intro i;have hs:t.size=t.data.size:=rfl;have d:a+m<=t.data.size:=by rw[<-hs];exact h
 simp only[gl,iv,fY];by_cases hi:i<m
 ·have h3:a+i<t.data.size:=by omega
  rw[bJ,List.getElem?_range' hi,ej,bm (by omega),eh];simp only[jf,Nat.one_mul,da,eM];rw[Array.getElem?_eq_getElem h3];rfl
 ·rw[ll (by simp;omega),ll (by simp;omega)]
def beq_iff{l r:aE eJ}:cD l r=ao↔l=r:=by
 constructor
 ·intro h;induction l generalizing r with
  |nil=>cases r with|nil=>rfl|cons=>cases h
  |cons a l ih=>
   cases r with
   |nil=>cases h
   |cons b r=>simp only[cD,aM]at h;rw[eq_of_beq h.1,ih h.2]
 ·rintro rfl;exact lT l
def canon(t:ar)(k a:aN)(h:a+(k+1)<=t.size)(h1:∀i,i<k->128<=fJ t (a+i))(h2:fJ t (a+k)<128)(h4:num t a (k+1)<=9223372036854775807):
  cD (bytesOf (vb (num t a (k+1)))).toList (t.extract a (a+(k+1))).toList= !decide (k>0/\fJ t (a+k)=0):=by
 rw[kK,kK];by_cases d:k>0/\fJ t (a+k)=0
 ·rw[aA d,aY];obtain⟨k',rfl⟩:∃k',k=k'+1:=⟨k-1,by omega⟩
  cases f:cD (bytesOf (vb (num t a (k'+1+1)))).data.toList (t.extract a (a+(k'+1+1))).data.toList with
  |false=>rfl
  |true=>
   exfalso;have j:=gu bD (beq_iff.1 f);have e:num t a (k'+1+1)=num t a (k'+1):=by rw[rz,d.2];simp
   have hl:=u5 k' (num t a (k'+1)) (uW t (k'+1) a).2;rw[e]at j;have m:(bytesOf (vb (num t a (k'+1)))).data.toList.length=(vb (num t a (k'+1))).length:=ie _;have h6:(t.extract a (a+(k'+1+1))).data.toList.length=k'+1+1:=by show(t.extract a (a+(k'+1+1))).size=_;rw[vQ];omega
   omega
 ·rw[aD d,bH];have:=Vb t k a h1 h2 (by omega) h4;rw[this];exact beq_iff.2 (IC h)
def qH{a b:ar}(h:a.data.toList=b.data.toList):a=b:=by obtain⟨⟨a⟩⟩:=a;obtain⟨⟨b⟩⟩:=b;simp at h;rw[h]
def eP{a b:ar}:cD a.toList b.toList=ah (a=b):=by
 rw[kK,kK];by_cases h:a=b
 ·subst h;rw[aA rfl];exact lT _
 ·rw[aD h];cases d:cD a.data.toList b.data.toList with
  |false=>rfl
  |true=>exact cO (qH (beq_iff.1 d)) h
def abx(t:ar)(a:aN):∀(f j:aN) (n:az) (m x:az),rv t a f j n=(m,x,ao)->n=num t a j->(∀i,i<j->128<=fJ t (a+i))->
  ∃k,x=((a+(k+1):aN):az)/\a+(k+1)<=t.size/\0<=m/\m<=1000000000/\bytesOf (vb m)=t.extract a (a+(k+1))
 |0,j,n,m,x,h,_,_=>by simp[rv]at h
 |f+1,j,n,m,x,h,B,e=>by
  have H:=zS t (a+j);have d:n+(fJ t (a+j):az)%128*128^j=num t a (j+1):=by rw[rz,<-B]
  simp only[rv]at h;by_cases o:a+j<t.size
  ·rw[bm o]at h;by_cases y:(fJ t (a+j):az)>127
   ·rw[bm y]at h;refine abx t a f (j+1) _ m x h d (λi hi=> ?_);by_cases r:i<j
    ·exact e i r
    ·have:i=j:=by omega
     subst this;omega
   ·rw[bk y]at h;by_cases u:(j>0/\fJ t (a+j)=0)\/n+(fJ t (a+j):az)%128*128^j>1000000000
    ·rw[bm u]at h;simp at h
    ·rw[bk u]at h;simp only[jg,and_true]at h;obtain⟨rfl,rfl⟩:=h;have z:=uW t (j+1) a;rw[<-d]at z;refine⟨j,by omega,by omega,z.1,by omega,?_⟩
     have:=canon t j a (by omega) e (by omega) (by rw[<-d];omega);rw[eP,show ah (j>0/\fJ t (a+j)=0)=aq from aD (λh=>u (.inl h)),bH,<-d]at this;exact cB this
  ·rw[bk o]at h;simp at h
def ea(t:ar)(a:az):az×az×aZ:=if 0<=a/\a<=t.size then rv t a.toNat 5 0 0 else(0,0,aq)
def h_(h:ea t a=(m,x,ao)):0<=a/\a<x/\x<=t.size/\0<=m/\m<=1000000000/\bytesOf (vb m)=t.extract a.toNat x.toNat:=by
 unfold ea at h;by_cases d:0<=a/\a<=t.size
 ·rw[bm d]at h;obtain⟨k,h1,h2,h3,h4,e⟩:=abx t a.toNat 5 0 0 m x h rfl (λi hi=>by omega);exact⟨d.1,by omega,by omega,h3,h4,by rw[h1];exact e⟩
 ·rw[bk d]at h;simp at h
def fO(t:ar)(a:az):ar×az×aZ:=
 match ea t a with
 |(n,x,ao)=>if n<=20000/\n<=t.size-x then(t.extract x.toNat (x+n).toNat,x+n,ao)else(⟨#[]⟩,0,aq)
 |_=>(⟨#[]⟩,0,aq)
def nR(u:t.size<=4611686018427387904)(a:az)(d:ar->az->aZ->aG R):
  (bif(!(ea t a).2.2)then(d ({data:= #[]}) 0 aq)else(bif(ah ((ea t a).1>20000))then(d ({data:= #[]}) 0 aq)else(bif(ah ((ea t a).1>bA ((↑(bf t):az)-(ea t a).2.1)))then(d ({data:= #[]}) 0 aq)else(bif(gA (ea t a).2.1 (bA ((ea t a).2.1+(ea t a).1)) (↑(bf t):az))then(d (bx t (aP (ea t a).2.1) (aP (bA ((ea t a).2.1+(ea t a).1)))) (bA ((ea t a).2.1+(ea t a).1)) ao)else(ay)))))=d (fO t a).1 (fO t a).2.1 (fO t a).2.2:=by
 unfold fO;cases m:ea t a with
 |mk n r=>
  obtain⟨x,ok⟩:=r;cases ok with
  |false=>rfl
  |true=>
   obtain⟨h1,h2,h3,h4,o,h6⟩:=h_ m;have h:bA ((t.size:az)-x)=t.size-x:=iE (by omega) (by omega);have j:bA (x+n)=x+n:=iE (by omega) (by omega);simp only[aY,ax,h,j];by_cases f:n<=20000/\n<=t.size-x
   ·rw[bm f,Sd (CK (by omega)),Sd (CK (by omega)),sV (by simp[gA];omega)]
   ·rw[bk f];by_cases e:n>20000
    ·rw[sV (vJ e)]
    ·rw[Sd (CK e),sV (vJ (by omega))]
def sI{t:ar}{a x:az}{s:ar}(h:fO t a=(s,x,ao)):0<=a/\a<x/\x<=t.size/\s.size<=20000/\bytesOf (vb s.size)++s=t.extract a.toNat x.toNat:=by
 unfold fO at h;cases e:ea t a with
 |mk n r=>
  obtain⟨y,ok⟩:=r;rw[e]at h;cases ok with
  |false=>simp at h
  |true=>
   dsimp only at h;obtain⟨h1,h2,h3,h4,f,h6⟩:=h_ e;split at h
   ·rename_i j;simp only[jg,and_true]at h;obtain⟨rfl,rfl⟩:=h;have d:(t.extract y.toNat (y+n).toNat).size=n.toNat:=by rw[vQ];omega
    refine⟨h1,by omega,by omega,by rw[d];omega,?_⟩
    rw[d,show((n.toNat:aN):az)=n by omega,h6];apply qH;simp only[gJ,gl,jR,iv,fY];rw[show(y+n).toNat-a.toNat=(y.toNat-a.toNat)+n.toNat by omega,ZE,v8,show a.toNat+(y.toNat-a.toNat)=y.toNat by omega,show(y+n).toNat-y.toNat=n.toNat by omega]
   ·simp at h
def oY(t:ar){i j k:aN}(h1:i<=j)(h2:j<=k):t.extract i j++t.extract j k=t.extract i k:=by apply qH;simp only[gJ,gl,jR,iv,fY];rw[show k-i=(j-i)+(k-j)by omega,ZE,v8,show i+(j-i)=j by omega]
def sn(t:ar):t.extract 0 t.size=t:=by apply qH;simp only[gl,iv,fY,gz,H2];exact e8 (by simp)
def fi(p:aN->aZ):aN->aN->az
 |0,_=> -1
 |d+1,i=>bif p i then(i:az)else fi p d (i+1)
def qK(p:aN->aZ):∀d i,fi p d i= -1/\(∀k,i<=k->k<i+d->p k=aq)\/∃k,i<=k/\k<i+d/\fi p d i=(k:az)/\p k=ao/\∀q,i<=q->q<k->p q=aq
 |0,i=>.inl ⟨rfl,λk _ _=>by omega⟩
 |d+1,i=>by
  unfold fi;cases hp:p i with
  |true=>exact .inr ⟨i,by omega,by omega,rfl,hp,λq _ _=>by omega⟩
  |false=>
   rcases qK p d (i+1)with ⟨h1,h2⟩|⟨k,h1,h2,h3,h4,e⟩
   ·refine .inl ⟨h1,λk f j=> ?_⟩;by_cases h:k=i
    ·subst h;exact hp
    ·exact h2 k (by omega) (by omega)
   ·refine .inr ⟨k,by omega,by omega,h3,h4,λq m a=> ?_⟩;by_cases h:q=i
    ·subst h;exact hp
    ·exact e q (by omega) a
end Go.FG.Lib
namespace Go.FG.Pu
def uh(xs:Row)(i:aN)(a:Row):Row:=xs.take i++a++xs.drop i
end Go.FG.Pu
namespace Go.FG
class PT (P:outParam dx) (T:outParam Tab):Prop where
 e:eB P T
 m:P.follows .mixedOrders=ao
abbrev As:=aE gD
abbrev AA.n(x:az):AA:=.i .i64 x
abbrev AV.n(x:az):AV:=.i .i64 x
abbrev CV.n(x:az):CV:=.i .i64 x
abbrev aI(x:az):gD:=.v aq [.n x]
abbrev aB(x:aZ):gD:=.v aq [.b x]
abbrev aS(x:ar):gD:=.v aq [.s x]
abbrev aH(e:aN)(x:Row):gD:=.v aq [.sh e x]
abbrev aO(e:aN)(x:Row):gD:=.v aq [.ow e ao x]
abbrev aV(l:aE AA):gD:=.v ao l
abbrev cA(k:aN)(a:AV):aN×e9:=(k,.v (.v aq [a]))
abbrev cV(k:aN)(l:aE AV):aN×e9:=(k,.v (.v ao l))
abbrev cI(k:aN)(x:az):aN×e9:=cA k (.n x)
abbrev cP(k n:aN):aN×e9:=cA k (.bp n 0)
abbrev cH(k e:aN)(x:Row):aN×e9:=cA k (.sh e x)
abbrev oB(k:aN)(l:aE AV):aN×e9:=(k,.o (.box l))
abbrev oR(k e:aN)(x:Row):aN×e9:=(k,.o (.row e ao x))
variable {P:dx} {T:Tab} [i:PT P T] {E:gy} {g:aN} {F:Func} {s t:aE Ho} {A:Fn s As} {k:Fn t iO}
def fq(j:∀g,lI P T g (E.call g))(z:P.funcs[g]? =ai F){it:aN->It (Pr t)}{l:aE Code}(a:∀N,∀c∈l,b0 E (it N) c)
  {c:Fn s aZ} {v:Fn s (Pr t)} (b:aN->Fn t (aG (Pr t))->Fn s (aG (Pr t))) (u:Fn s (aG (Pr t))) {d:Pr t} (r:E.toTab=T:=by rfl)
  (y:∀x,II F (ap s A x)=true:=by intro x;kernel_rfl) (hl:j8 (F.body.getD .skip)=l:=by kernel_rfl) (f:okA A:=by intro x;rfl) (hk:okK k:=by intro x;rfl)
  (h:∀N x,CF E (it N) F k (ap s A x)=ap s (b N (cmp t (kz t) ai)) x:=by intro N x;kernel_rfl) (hw:b Lib.cw (cmp t (kz t) ai)=u:=by rfl) (h1:cmp s u nK=c:=by rfl) (h2:cmp s u (λo=>o.getD d)=v:=by rfl):lI P T g (dR A k c v):=by subst r;exact fl i.e i.m j z y hl a f hk Lib.cw h hw h1 h2
def fr(f:∀g,lI P T g (E.call g))(y:P.funcs[g]? =ai F)
  {c:Fn s aZ} {v:Fn s (Pr t)} (b:Fn t (aG (Pr t))->Fn s (aG (Pr t))) (u:Fn s (aG (Pr t))) {d:Pr t} (j:E.toTab=T:=by rfl)
  (r:∀x,II F (ap s A x)=true:=by intro x;kernel_rfl) (hl:j8 (F.body.getD .skip)=[]:=by kernel_rfl) (a:okA A:=by intro x;rfl) (hk:okK k:=by intro x;rfl)
  (h:∀x,CF E ln F k (ap s A x)=ap s (b (cmp t (kz t) ai)) x:=by intro x;kernel_rfl) (hw:b (cmp t (kz t) ai)=u:=by rfl) (h1:cmp s u nK=c:=by rfl) (h2:cmp s u (λo=>o.getD d)=v:=by rfl):lI P T g (dR A k c v):=by subst j;exact fl i.e i.m f y r hl (it:=λ_=>ln) (λ_=>bC) a hk (w:=λ_=>b (cmp t (kz t) ai)) 0 (λ_=>h) hw h1 h2
def ft(d:∀g,lI P T g (E.call g))(o:P.funcs[g]? =ai F)
  (b:Fn t (aG (Pr t))->Fn s (aG (Pr t))) (r:∀x,ap s (b (cmp t (kz t) ai)) x=ai (ap s v x)) (f:E.toTab=T:=by rfl)
  (j:∀x,II F (ap s A x)=true:=by intro x;kernel_rfl) (hl:j8 (F.body.getD .skip)=[]:=by kernel_rfl) (a:okA A:=by intro x;rfl) (hk:okK k:=by intro x;rfl)
  (h:∀x,CF E ln F k (ap s A x)=ap s (b (cmp t (kz t) ai)) x:=by intro x;kernel_rfl):lI P T g (dR A k (ct s) v):=by subst f;exact flh i.e i.m d o j hl (it:=λ_=>ln) (λ_=>bC) a hk λx _ _=>⟨0,(h x).trans (r x)⟩
def fh(j:∀g,lI P T g (E.call g))(u:P.funcs[g]? =ai F){it:aN->It (Pr t)}{l:aE Code}(a:∀N,∀c∈l,b0 E (it N) c)
  {c:Fn s aZ} {v:Fn s (Pr t)} (b:aN->Fn t (aG (Pr t))->Fn s (aG (Pr t))) (y:∀x,yh (ap s A x)->ap s c x=ao->∃N,ap s (b N (cmp t (kz t) ai)) x=ai (ap s v x)) (o:E.toTab=T:=by rfl)
  (r:∀x,II F (ap s A x)=true:=by intro x;kernel_rfl) (hl:j8 (F.body.getD .skip)=l:=by kernel_rfl) (d:okA A:=by intro x;rfl) (hk:okK k:=by intro x;rfl)
  (h:∀N x,CF E (it N) F k (ap s A x)=ap s (b N (cmp t (kz t) ai)) x:=by intro N x;kernel_rfl):lI P T g (dR A k c v):=by subst o;exact flh i.e i.m j u r hl a d hk λx f q=>(y x f q).imp λN e=>(h N x).trans e
section
variable {R:Type} {it:It R} {F:Func}
def lq(n:aN){s:aE Ho}(T:Fn s Tb)(l:Kt R->aN->Fn s (aG R))(r:Kt R->Fn s (aG R)->Fn s (aG R)){N:aN}(d:gL (bM F n)=n:=by kernel_rfl)(a:okT T:=by intro x;rfl)
  (hi:∀L K,it n (ub E it (bM F n)) (canon (E.AR n)) L K=al T (λK=>l K N) an L K:=by intro L K;rfl) (h0:∀K x,ap s (l K 0) x=none:=by intro K x;rfl) (h1:∀K n,l K (n+1)=r K (l K n):=by intro K n;rfl)
  (h:∀K g x,ub E it (bM F n) (eW (ap s T x)) (Fc g (canon (E.AR n)) K)=ap s (r K (cmp s T λt=>g (eW t))) x:=by intro K g x;kernel_rfl):b0 E it (bM F n):=
 lo1 n T d a l r hi h0 h1 h
def lw{n:aN}{K:Kt R}{s:aE Ho}{T:Fn s Tb}{l:aN->Fn s (aG R)}(r:(St->aG R)->Fn s (aG R))
  (h1:∀m,(∀x,iter (ub E it (bM F n)) (canon (E.AR n)) m (eW (ap s T x)) K=ap s (l m) x)->r (λσ=>iter (ub E it (bM F n)) (canon (E.AR n)) m σ K)=l (m+1)) (h0:∀x,ap s (l 0) x=none:=by intro x;rfl)
  (h:∀g x,ub E it (bM F n) (eW (ap s T x)) (Fc g (canon (E.AR n)) K)=ap s (r g) x:=by intro g x;kernel_rfl):Wd E it (bM F n) n K T l:=wl r h0 h1 h
def lm(n:aN)(h:Good E it (bM F n) n a)(d:gL (bM F n)=n:=by kernel_rfl)(hi:∀L K,it n (ub E it (bM F n)) (canon (E.AR n)) L K=a L K:=by intro L K;rfl):b0 E it (bM F n):=lom n d hi h
def ga{C:Code}{n:aN}{s:aE Ho}(T:Fn s Tb){N:aN}{l:Kt R->aN->Fn s (aG R)}{o:Tb->Kt R->aG R}(h:∀K,Wd E it C n K T (l K))(d:Good E it C n o)(a:okT T:=by intro x;rfl):Good E it C n (al T (λK=>l K N) o):=Nw a h d
end
end Go.FG
namespace Go.FG
open Go.RowKit
def HS(P:dx)(n:String)(g:aN)(hg:P.globalNamed n=ai g)(Q:eN bS->Prop):Bc:=
 ⟨λw K=>K g/\∃cs,w.var? P n=ai cs/\Q cs,λ{w w' K d} ⟨h1,cs,h2,h3⟩ hw a=>⟨a g h1,cs,by unfold World.var? at h2⊢;rw[hg]at h2⊢;simpa [hw g h1]using h2,h3⟩⟩
def Bc.and(a b:Bc):Bc:=⟨λw K=>a.f w K/\b.f w K,λ⟨h1,h2⟩ hw d=>⟨a.fr h1 hw d,b.fr h2 hw d⟩⟩
def SN(g:aN):Bc:=
 ⟨λw K=>K g/\∃m:az,w.cell? (ad g 0)=ai (.int .i64 m),λ{w w' K e} ⟨h1,m,h2⟩ hw d=>⟨d g h1,m,(vG (a:=ad g 0) (hw g h1)).trans h2⟩⟩
def K4(h:W.cell? (ad g 0)=ai (.int .i64 m)):(SN g).f W (wP W):=by
 refine⟨?_,m,h⟩
 unfold OQ at h;show g<W.heap.size;cases a:W.heap[g]? with
 |none=>simp[a]at h
 |some o=>exact(dD.1 a).1
def wF(h:W.var? P n=ai cs)(d:Q cs):(HS P n g hg Q).f W (wP W):=by
 refine⟨?_,cs,h,d⟩
 unfold World.var? at h;rw[hg]at h;simp only[Option.bind_some]at h;show g<W.heap.size;cases a:W.heap[g]? with
 |none=>rw[a]at h;cases h
 |some o=>exact(dD.1 a).1
def B1{P:dx}{T:Tab}{g:aN}{F:Func}(B:P.funcs[g]? =ai F)(o:F.body.isSome=ao)(H:(F.name== "runtime.NumGoroutine")=aq){s t:aE Ho}{A:Fn s (aE gD)}{k:Fn t iO}{c:Fn s aZ}{v:Fn s (Pr t)}(m:okA A)
  (h:∀x,ap s c x=ao->∀(w:cN) (a:gQ) (vs:eN bS),Ok T (inj (ap s A x)) w a->vs.size=(ap s A x).length->(∀(p:aN) (y:gD),(ap s A x)[p]? =ai y->∃v,vs[p]? =ai v/\jb T w a (sW p y) v)->
   Calls P g vs w (λe w'=>∃u,e=.returned u/\Im T (ap s A x) (ZH t k (ap s v x)) a w u w')):lI P T g (dR A k c v):=by
 intro args r K w a vs d f j;obtain⟨x,rfl,hq⟩:=DB m K;obtain⟨h1,rfl⟩:=bX hq;refine⟨⟨F,B,o,H⟩,(h x h1.symm w a vs d f j).mono λe w' z=> ?_⟩
 obtain⟨u,rfl,h⟩:=z;exact h
def yw(u:aN->Prop)(h1:Ok T (inj args) w d)(j:∀m o,n9 args r (dj m)≠ .o o)(e:Below w.heap.size w w')
  (y:∀b,d.K b->u b) (f:∀b,u b->d.K b\/(w.heap.size<=b/\b<w'.heap.size)) (x:jb T w' ⟨d.P,d.G,u⟩ (Uc r.rs) v):Im T args r d w v w':=
 ⟨⟨d.P,d.G,u⟩,⟨λnm o h=>cO h (j nm o),λnm o B o' b h=>cO h (j nm o),λnm o b h=>cO h (j nm o),λb a=>(f b a).elim (λh=>jV (h1.lt b h) e.size) (λh=>h.2),λnm xs h=>cO h (j nm _),T.gp.fr h1.gp (λb a=>e.block b (h1.lt b a)) y⟩,
  ⟨e.os,e.tape,e.output,e.size,y,λb a _=>e.block b a,λb ⟨nm,o,z,_⟩=>cO z (j nm o),λb a=>(f b a).elim .inl (λh=>.inr (.inr h.1))⟩,λ_ _=>⟨rfl,rfl⟩,x⟩
def AH(w:cN)(k:aN)(os:eN Go.Obj):Below w.heap.size w (Go.Sort.grow (w.drewN k) os):=
 ⟨rfl,rfl,rfl,by show w.heap.size<=(w.heap++os).size;simp,λb a=>by show(w.heap++os)[b]? =_;rw[Array.getElem?_append,bm a]⟩
def Pp{T:Tab}{w':cN}{K:aN->Prop}{e b:aN}{by_:aN}(o:T.ty e=ai ⟨aq,[.s],by_⟩){l:aE ar}{t:aN}{fr:aN×aN}{n:aN}(m:n=l.length)(f:w'.heap[b]? =ai (.cells (l.map Value.string).toArray t fr))(d:K b)(hs:∀x∈l,DS x)(hm:l.length<=maxLen):
  Holds T w' K (.slice (ai (ad b 0)) n n) (.l e (l.map λx=>[CV.s x])):=by
 subst m;have h:=Holds.l (E:=T) (w:=w') (K:=K) e (l.map λx=>[CV.s x]) b 0 l.length ⟨aq,[.s],by_⟩ (λi _=>.string (l.getD i ⟨#[]⟩)) o (by simp) hm d (λy r=>by obtain⟨x,_,rfl⟩:=cU.1 r;rfl) (λi j y x hi a=> ?_) (λi j y x hi a=> ?_)
 ·rw[bK]at h;exact h
 ·rw[bJ]at hi;cases hl:l[i]? with
  |none=>rw[hl]at hi;cases hi
  |some z=>
   rw[hl]at hi;cases hi;cases j with
   |zero=>simp[OQ,f,hl,eC]
   |succ j=>simp at a
 ·rw[bJ]at hi;cases hl:l[i]? with
  |none=>rw[hl]at hi;cases hi
  |some z=>
   rw[hl]at hi;cases hi;cases j with
   |zero=>
    cases a;have:l.getD i ⟨#[]⟩=z:=by simp[eC,hl]
    show Holds T w' K (.string (l.getD i ⟨#[]⟩)) (.s z);rw[this];exact .s z (hs z (aU hl))
   |succ j=>simp at a
end Go.FG
namespace Go.FG
def kq{a r:Type}(f:a->aG r):=λd=>(f d).isSome
def kA{a r:Type}[Inhabited r](f:a->aG r):=λd=>(f d).getD default
abbrev kt{a r:Type}(f:a->aG r)(c:a->aZ)(v:a->r) x:=∀d,f d=ai x->c d=ao/\v d=x
def kF{a r:Type}[Inhabited r]{f:a->aG r}{x}:kt f (kq f) (kA f) x:=λ_=>Lib.wB
def js{a a1 r:Type}(f:a->a1->aG r):=λd e=>(f d e).isSome
def jw{a a1 r:Type}[Inhabited r](f:a->a1->aG r):=λd e=>(f d e).getD default
abbrev ju{a a1 r:Type}(f:a->a1->aG r)(c:a->a1->aZ)(v:a->a1->r) x:=∀d e,f d e=ai x->c d e=ao/\v d e=x
def jA{a a1 r:Type}[Inhabited r]{f:a->a1->aG r}{x}:ju f (js f) (jw f) x:=λ_ _=>Lib.wB
def KC{a a1 a2 r:Type}(f:a->a1->a2->aG r):=λd e h=>(f d e h).isSome
def LY{a a1 a2 r:Type}[Inhabited r](f:a->a1->a2->aG r):=λd e h=>(f d e h).getD default
abbrev Lm{a a1 a2 r:Type}(f:a->a1->a2->aG r)(c:a->a1->a2->aZ)(v:a->a1->a2->r) x:=∀d e h,f d e h=ai x->c d e h=ao/\v d e h=x
def PM{a a1 a2 r:Type}[Inhabited r]{f:a->a1->a2->aG r}{x}:Lm f (KC f) (LY f) x:=λ_ _ _=>Lib.wB
def vx{a a1 a2 a3 r:Type}(f:a->a1->a2->a3->aG r):=λd e h j=>(f d e h j).isSome
def vD{a a1 a2 a3 r:Type}[Inhabited r](f:a->a1->a2->a3->aG r):=λd e h j=>(f d e h j).getD default
abbrev vB{a a1 a2 a3 r:Type}(f:a->a1->a2->a3->aG r)(c:a->a1->a2->a3->aZ)(v:a->a1->a2->a3->r) x:=∀d e h j,f d e h j=ai x->c d e h j=ao/\v d e h j=x
def wz{a a1 a2 a3 r:Type}[Inhabited r]{f:a->a1->a2->a3->aG r}{x}:vB f (vx f) (vD f) x:=λ_ _ _ _=>Lib.wB
def Bl{a a1 a2 a3 a4 r:Type}(f:a->a1->a2->a3->a4->aG r):=λd e h j m=>(f d e h j m).isSome
def Br{a a1 a2 a3 a4 r:Type}[Inhabited r](f:a->a1->a2->a3->a4->aG r):=λd e h j m=>(f d e h j m).getD default
abbrev Bo{a a1 a2 a3 a4 r:Type}(f:a->a1->a2->a3->a4->aG r)(c:a->a1->a2->a3->a4->aZ)(v:a->a1->a2->a3->a4->r) x:=∀d e h j m,f d e h j m=ai x->c d e h j m=ao/\v d e h j m=x
def De{a a1 a2 a3 a4 r:Type}[Inhabited r]{f:a->a1->a2->a3->a4->aG r}{x}:Bo f (Bl f) (Br f) x:=λ_ _ _ _ _=>Lib.wB
def ahh{a a1 a2 a3 a4 a5 d e r:Type}(f:a->a1->a2->a3->a4->a5->d->e->aG r):=λh j m o u x y z=>(f h j m o u x y z).isSome
def akM{a a1 a2 a3 a4 a5 d e r:Type}[Inhabited r](f:a->a1->a2->a3->a4->a5->d->e->aG r):=λh j m o u x y z=>(f h j m o u x y z).getD default
abbrev ajE{a a1 a2 a3 a4 a5 d e r:Type}(f:a->a1->a2->a3->a4->a5->d->e->aG r)(c:a->a1->a2->a3->a4->a5->d->e->aZ)(v:a->a1->a2->a3->a4->a5->d->e->r) x:=∀h j m o u y z B,f h j m o u y z B=ai x->c h j m o u y z B=ao/\v h j m o u y z B=x
def an'{a a1 a2 a3 a4 a5 d e r:Type}[Inhabited r]{f:a->a1->a2->a3->a4->a5->d->e->aG r}{x}:ajE f (ahh f) (akM f) x:=λ_ _ _ _ _ _ _ _=>Lib.wB
def Bm{a a1 a2 a3 a4 a5 d e h r:Type}(f:a->a1->a2->a3->a4->a5->d->e->h->aG r):=λj m o u x y z B H=>(f j m o u x y z B H).isSome
def Bs{a a1 a2 a3 a4 a5 d e h r:Type}[Inhabited r](f:a->a1->a2->a3->a4->a5->d->e->h->aG r):=λj m o u x y z B H=>(f j m o u x y z B H).getD default
abbrev Bp{a a1 a2 a3 a4 a5 d e h r:Type}(f:a->a1->a2->a3->a4->a5->d->e->h->aG r)(c:a->a1->a2->a3->a4->a5->d->e->h->aZ)(v:a->a1->a2->a3->a4->a5->d->e->h->r) x:=∀j m o u y z B H K,f j m o u y z B H K=ai x->c j m o u y z B H K=ao/\v j m o u y z B H K=x
def Df{a a1 a2 a3 a4 a5 d e h r:Type}[Inhabited r]{f:a->a1->a2->a3->a4->a5->d->e->h->aG r}{x}:Bp f (Bm f) (Bs f) x:=λ_ _ _ _ _ _ _ _ _=>Lib.wB
def qi{a a1 a2 a3 a4 a5 d e h j r:Type}(f:a->a1->a2->a3->a4->a5->d->e->h->j->aG r):=λm o u x y z B H K M=>(f m o u x y z B H K M).isSome
def qw{a a1 a2 a3 a4 a5 d e h j r:Type}[Inhabited r](f:a->a1->a2->a3->a4->a5->d->e->h->j->aG r):=λm o u x y z B H K M=>(f m o u x y z B H K M).getD default
abbrev qp{a a1 a2 a3 a4 a5 d e h j r:Type}(f:a->a1->a2->a3->a4->a5->d->e->h->j->aG r)(c:a->a1->a2->a3->a4->a5->d->e->h->j->aZ)(v:a->a1->a2->a3->a4->a5->d->e->h->j->r) x:=∀m o u y z B H K M N,f m o u y z B H K M N=ai x->c m o u y z B H K M N=ao/\v m o u y z B H K M N=x
def rA{a a1 a2 a3 a4 a5 d e h j r:Type}[Inhabited r]{f:a->a1->a2->a3->a4->a5->d->e->h->j->aG r}{x}:qp f (qi f) (qw f) x:=λ_ _ _ _ _ _ _ _ _ _=>Lib.wB
def xT{e a1 a2 a3 a4 a5 h j m o a r:Type}(f:e->a1->a2->a3->a4->a5->h->j->m->o->a->aG r):=λu x y z B H K M N O d=>(f u x y z B H K M N O d).isSome
def yM{e a1 a2 a3 a4 a5 h j m o a r:Type}[Inhabited r](f:e->a1->a2->a3->a4->a5->h->j->m->o->a->aG r):=λu x y z B H K M N O d=>(f u x y z B H K M N O d).getD default
abbrev yq{e a1 a2 a3 a4 a5 h j m o a r:Type}(f:e->a1->a2->a3->a4->a5->h->j->m->o->a->aG r)(c:e->a1->a2->a3->a4->a5->h->j->m->o->a->aZ)(v:e->a1->a2->a3->a4->a5->h->j->m->o->a->r) x:=∀u y z B H K M N O Q d,f u y z B H K M N O Q d=ai x->c u y z B H K M N O Q d=ao/\v u y z B H K M N O Q d=x
def AX{d a1 a2 a3 a4 a5 e h j m a r:Type}[Inhabited r]{f:d->a1->a2->a3->a4->a5->e->h->j->m->a->aG r}{x}:yq f (xT f) (yM f) x:=λ_ _ _ _ _ _ _ _ _ _ _=>Lib.wB
def ZK{j a1 a2 a3 a4 a5 m o u x a d r:Type}(f:j->a1->a2->a3->a4->a5->m->o->u->x->a->d->aG r):=λy z B H K M N O Q S e h=>(f y z B H K M N O Q S e h).isSome
def acO{j a1 a2 a3 a4 a5 m o u x a d r:Type}[Inhabited r](f:j->a1->a2->a3->a4->a5->m->o->u->x->a->d->aG r):=λy z B H K M N O Q S e h=>(f y z B H K M N O Q S e h).getD default
abbrev abr{j a1 a2 a3 a4 a5 m o u y a d r:Type}(f:j->a1->a2->a3->a4->a5->m->o->u->y->a->d->aG r)(c:j->a1->a2->a3->a4->a5->m->o->u->y->a->d->aZ)(v:j->a1->a2->a3->a4->a5->m->o->u->y->a->d->r) x:=∀z B H K M N O Q S U e h,f z B H K M N O Q S U e h=ai x->c z B H K M N O Q S U e h=ao/\v z B H K M N O Q S U e h=x
def ajG{e a1 a2 a3 a4 a5 h j m o a d r:Type}[Inhabited r]{f:e->a1->a2->a3->a4->a5->h->j->m->o->a->d->aG r}{x}:abr f (ZK f) (acO f) x:=λ_ _ _ _ _ _ _ _ _ _ _ _=>Lib.wB
def M_{o a1 a2 a3 a4 a5 u x y z a d e r:Type}(f:o->a1->a2->a3->a4->a5->u->x->y->z->a->d->e->aG r):=λB H K M N O Q S U V h j m=>(f B H K M N O Q S U V h j m).isSome
def Oq{o a1 a2 a3 a4 a5 u x y z a d e r:Type}[Inhabited r](f:o->a1->a2->a3->a4->a5->u->x->y->z->a->d->e->aG r):=λB H K M N O Q S U V h j m=>(f B H K M N O Q S U V h j m).getD default
abbrev NW{o a1 a2 a3 a4 a5 u y z B a d e r:Type}(f:o->a1->a2->a3->a4->a5->u->y->z->B->a->d->e->aG r)(c:o->a1->a2->a3->a4->a5->u->y->z->B->a->d->e->aZ)(v:o->a1->a2->a3->a4->a5->u->y->z->B->a->d->e->r) x:=∀H K M N O Q S U V X h j m,f H K M N O Q S U V X h j m=ai x->c H K M N O Q S U V X h j m=ao/\v H K M N O Q S U V X h j m=x
def TX{h a1 a2 a3 a4 a5 j m o u a d e r:Type}[Inhabited r]{f:h->a1->a2->a3->a4->a5->j->m->o->u->a->d->e->aG r}{x}:NW f (M_ f) (Oq f) x:=λ_ _ _ _ _ _ _ _ _ _ _ _ _=>Lib.wB
def ZL{x a1 a2 a3 a4 a5 y z B H a d e h r:Type}(f:x->a1->a2->a3->a4->a5->y->z->B->H->a->d->e->h->aG r):=λK M N O Q S U V X Y j m o u=>(f K M N O Q S U V X Y j m o u).isSome
def acP{x a1 a2 a3 a4 a5 y z B H a d e h r:Type}[Inhabited r](f:x->a1->a2->a3->a4->a5->y->z->B->H->a->d->e->h->aG r):=λK M N O Q S U V X Y j m o u=>(f K M N O Q S U V X Y j m o u).getD default
abbrev abt{y a1 a2 a3 a4 a5 z B H K a d e h r:Type}(f:y->a1->a2->a3->a4->a5->z->B->H->K->a->d->e->h->aG r)(c:y->a1->a2->a3->a4->a5->z->B->H->K->a->d->e->h->aZ)(v:y->a1->a2->a3->a4->a5->z->B->H->K->a->d->e->h->r) x:=∀M N O Q S U V X Y x9 j m o u,f M N O Q S U V X Y x9 j m o u=ai x->c M N O Q S U V X Y x9 j m o u=ao/\v M N O Q S U V X Y x9 j m o u=x
def ajH{j a1 a2 a3 a4 a5 m o u y a d e h r:Type}[Inhabited r]{f:j->a1->a2->a3->a4->a5->m->o->u->y->a->d->e->h->aG r}{x}:abt f (ZL f) (acP f) x:=λ_ _ _ _ _ _ _ _ _ _ _ _ _ _=>Lib.wB
def ZM{z a1 a2 a3 a4 a5 B H K M a d e h j r:Type}(f:z->a1->a2->a3->a4->a5->B->H->K->M->a->d->e->h->j->aG r):=λN O Q S U V X Y x8 x9 m o u x y=>(f N O Q S U V X Y x8 x9 m o u x y).isSome
def acQ{z a1 a2 a3 a4 a5 B H K M a d e h j r:Type}[Inhabited r](f:z->a1->a2->a3->a4->a5->B->H->K->M->a->d->e->h->j->aG r):=λN O Q S U V X Y x8 x9 m o u x y=>(f N O Q S U V X Y x8 x9 m o u x y).getD default
abbrev abu{B a1 a2 a3 a4 a5 H K M N a d e h j r:Type}(f:B->a1->a2->a3->a4->a5->H->K->M->N->a->d->e->h->j->aG r)(c:B->a1->a2->a3->a4->a5->H->K->M->N->a->d->e->h->j->aZ)(v:B->a1->a2->a3->a4->a5->H->K->M->N->a->d->e->h->j->r) x:=∀O Q S U V X Y x7 x8 x9 m o u y z,f O Q S U V X Y x7 x8 x9 m o u y z=ai x->c O Q S U V X Y x7 x8 x9 m o u y z=ao/\v O Q S U V X Y x7 x8 x9 m o u y z=x
def ajI{m a1 a2 a3 a4 a5 o u y z a d e h j r:Type}[Inhabited r]{f:m->a1->a2->a3->a4->a5->o->u->y->z->a->d->e->h->j->aG r}{x}:abu f (ZM f) (acQ f) x:=λ_ _ _ _ _ _ _ _ _ _ _ _ _ _ _=>Lib.wB
def ZN{H a1 a2 a3 a4 a5 K M N O a d e h j m r:Type}(f:H->a1->a2->a3->a4->a5->K->M->N->O->a->d->e->h->j->m->aG r):=λQ S U V X Y x6 x7 x8 x9 o u x y z B=>(f Q S U V X Y x6 x7 x8 x9 o u x y z B).isSome
def acR{H a1 a2 a3 a4 a5 K M N O a d e h j m r:Type}[Inhabited r](f:H->a1->a2->a3->a4->a5->K->M->N->O->a->d->e->h->j->m->aG r):=λQ S U V X Y x6 x7 x8 x9 o u x y z B=>(f Q S U V X Y x6 x7 x8 x9 o u x y z B).getD default
abbrev abv{K a1 a2 a3 a4 a5 M N O Q a d e h j m r:Type}(f:K->a1->a2->a3->a4->a5->M->N->O->Q->a->d->e->h->j->m->aG r)(c:K->a1->a2->a3->a4->a5->M->N->O->Q->a->d->e->h->j->m->aZ)(v:K->a1->a2->a3->a4->a5->M->N->O->Q->a->d->e->h->j->m->r) x:=∀S U V X Y x5 x6 x7 x8 x9 o u y z B H,f S U V X Y x5 x6 x7 x8 x9 o u y z B H=ai x->c S U V X Y x5 x6 x7 x8 x9 o u y z B H=ao/\v S U V X Y x5 x6 x7 x8 x9 o u y z B H=x
def ajJ{o a1 a2 a3 a4 a5 u y z B a d e h j m r:Type}[Inhabited r]{f:o->a1->a2->a3->a4->a5->u->y->z->B->a->d->e->h->j->m->aG r}{x}:abv f (ZN f) (acR f) x:=λ_ _ _ _ _ _ _ _ _ _ _ _ _ _ _ _=>Lib.wB
def EO{M a1 a2 a3 a4 a5 N O Q S a d e h j m o r:Type}(f:M->a1->a2->a3->a4->a5->N->O->Q->S->a->d->e->h->j->m->o->aG r):=λU V X Y x4 x5 x6 x7 x8 x9 u x y z B H K=>(f U V X Y x4 x5 x6 x7 x8 x9 u x y z B H K).isSome
def FF{M a1 a2 a3 a4 a5 N O Q S a d e h j m o r:Type}[Inhabited r](f:M->a1->a2->a3->a4->a5->N->O->Q->S->a->d->e->h->j->m->o->aG r):=λU V X Y x4 x5 x6 x7 x8 x9 u x y z B H K=>(f U V X Y x4 x5 x6 x7 x8 x9 u x y z B H K).getD default
abbrev Fp{N a1 a2 a3 a4 a5 O Q S U a d e h j m o r:Type}(f:N->a1->a2->a3->a4->a5->O->Q->S->U->a->d->e->h->j->m->o->aG r)(c:N->a1->a2->a3->a4->a5->O->Q->S->U->a->d->e->h->j->m->o->aZ)(v:N->a1->a2->a3->a4->a5->O->Q->S->U->a->d->e->h->j->m->o->r) x:=∀V X Y x3 x4 x5 x6 x7 x8 x9 u y z B H K M,f V X Y x3 x4 x5 x6 x7 x8 x9 u y z B H K M=ai x->c V X Y x3 x4 x5 x6 x7 x8 x9 u y z B H K M=ao/\v V X Y x3 x4 x5 x6 x7 x8 x9 u y z B H K M=x
def Jp{u a1 a2 a3 a4 a5 y z B H a d e h j m o r:Type}[Inhabited r]{f:u->a1->a2->a3->a4->a5->y->z->B->H->a->d->e->h->j->m->o->aG r}{x}:Fp f (EO f) (FF f) x:=λ_ _ _ _ _ _ _ _ _ _ _ _ _ _ _ _ _=>Lib.wB
end Go.FG
