/- slices.Insert at elements of plain cells, over any program that bears its text: a call of it does what is told. No condition but those that are stated. -/
import Derived.Test.YtpcfgiocpohbmaaGreatDoorLib
import Derived.Shelf.Bodies2
import Derived.Shelf.RegionOpenPlain
import Derived.WalkKit
import Derived.Lib.Walk
import Derived.Lib.SliceRun
import Derived.Lib.JoinLaws
import Derived.Lib.AppendZeros
import Derived.Lib.Overlaps
import Derived.Laws.Externs
import Derived.Laws.IdiomCopy
import Derived.Lib.AppendZerosOnto
set_option linter.all false
set_option maxRecDepth 100000
set_option autoImplicit true
set_option relaxedAutoImplicit true
open Array renaming length_toList->dM,getElem?_toList->da,getElem?_eq_some_iff->dD,append_assoc->OI,getElem?_append_left->Et,getElem?_eq_none->HX
open Bool renaming true->ao,false->aq,and_eq_true->aM
open Decidable renaming decide->ah
open Go renaming Program->dx,World->cN,Oper->ia,Operand->fB,Value->bS
open Go.Act renaming eval->Ie,put->Vl
open Go.Builtin renaming copy_->gF,append_->iu,firstCells->fu,lenOf->pR,zeroCells->fS
open Go.Extern.SlicesOverlaps renaming overlaps->la
open Go.IntKind renaming i64->ak,wrap_i64->qy
open Go.Lib renaming wpList_append_run->uK
open Go.Oper renaming wp->OP
open Go.Region renaming wanted->vF
open Go.Result renaming andThen_ok->bI
open Go.Sem renaming run_bind->cx,run_pure->c8,run->nu
open Go.Value renaming bool->DN
open Go.World renaming cell?_of_block->vG,shape?->Y8,frozen?->Y7,cell?->OQ,setRow->lJ
open Int renaming toNat_natCast->dX
open List renaming map_toArray->DZ,map_cons->fD,map_nil->wb,length_take->dG,length_drop->g_,getElem?_take->ej,getElem?_drop->eh,getElem?_of_mem->b5,getElem?_eq_some_iff->aW,getElem?_eq_getElem->fC,size_toArray->Cr,getElem?_toArray->ib,append_assoc->cg,getElem?_append_left->dz,getElem?_append_right->de,all_eq_true->bE,getElem_mem->bF,mem_of_getElem?->aU,eq_nil_of_length_eq_zero->eU,length_map->bK
open Nat renaming min->R3,le_refl->bW,eq_zero_or_pos->DP,add_zero->BJ,mul_le_mul_right->b9,add_mul->dv,sub_mul->vH,min_def->Mv,add_assoc->kc,zero_add->bV,beq->bN,eq_of_beq_eq_true->aX,div_lt_iff_lt_mul->yS,mod_lt->F0,div_add_mod->JV,mul_comm->Ii,lt_of_lt_of_le->jV
open Option renaming some->ai,none->ay
open Option.some renaming inj->aL
open Prod.mk renaming inj->bX
open _root_ renaming Nat->aN,Array->eN,List->aE,if_pos->bm,Option->aG,Int->az,if_neg->bk,absurd->cO,Bool->aZ,cond_true->au,decide_eq_true_eq->ba
namespace Go.FG.Ins
open Go Go.Shelf Go.RowKit Go.Lib Go.Proofs
structure L (P:dx) (ρ:Ren) (nm:String) (sz:aN):Prop where
 mixed:P.follows .mixedOrders=ao
 f22:P.funcs[ρ.f 22]? =ai {Body2.n22 ρ with name:=nm}
 t3:P.underlying (ρ.t 3)=ai (TypeDesc.int ak)
 a3:∀w,(Go.isAgg (ρ.t 3)).run P w=.ok aq w
 t4:P.underlying (ρ.t 4)=ai (TypeDesc.bool)
 a4:∀w,(Go.isAgg (ρ.t 4)).run P w=.ok aq w
 t24:P.underlying (ρ.t 24)=ai (TypeDesc.slice (ρ.t 9))
 a24:∀w,(Go.isAgg (ρ.t 24)).run P w=.ok aq w
 z9:∀w,(Go.sizeOf (ρ.t 9)).run P w=.ok sz w
variable {P:dx} {ρ:Ren} {nm:String} {sz:aN}
def wpList_copy(w:cN){ops:eN ia}{rest:aE ia}{o:ia}{a:Act}{Q:Exit->Act->cN->Prop}(hgd:o.guard=ay)(d s:fB)(t t':TypeId)
  (ho:o.op=.call {callee:=.builtin .copy,args:= #[d,s],argTypes:= #[t,t']}) (v u:bS) (hd:a.eval d=v) (hs:a.eval s=u) {v':bS} {w':cN}
  (hr:(gF #[t,t'] o.type #[v,u]).run P w=.ok v' w') (h:wpList P ops Q rest (a.put o.dst v') w'):wpList P ops Q (o::rest) a w:=
 wpList_plain hgd λ_ hK=>by
  unfold OP execOp;simp only[ho,resolve,invoke,builtin,cx,c8,bI,DZ,fD,wb,hd,hs,hr];exact hK _ _ h
def step_copy{ops:eN ia}{o:ia}{a:Act}{w:cN}{K:Act->cN->Prop}{Q:Exit->Act->cN->Prop}{E:Prop}
  (hg:o.guard=ay) (d x:fB) (dT sT:TypeId) (hop:o.op=Op.call {callee:=Callee.builtin Builtin.copy,args:= #[d,x],argTypes:= #[dT,sT]})
  (v u:bS) (hd:a.eval d=v) (hx:a.eval x=u) {v':bS} {w':cN} (hr:(gF #[dT,sT] o.type #[v,u]).run P w=.ok v' w') (hK:K (a.put o.dst v') w'):
  if vF o (yielded ops a.tmps)=ao then OP P o a w K Q else E:=by
 have hw:vF o (yielded ops a.tmps)=true:=by simp[vF,hg]
 rw[bm hw];unfold OP;simp[execOp,hop,resolve,invoke,builtin,hd,hx,hr,Result.andThen];exact hK
set_option maxHeartbeats 4000000 in
set_option maxRecDepth 100000 in
def zero(l:L P ρ nm sz)(w:cN)(A B:aG Addr)(n c i vc:aN)(hi:i<=n)(hn:n<=9223372036854775807)(hA:A=ay/\n=0\/∃b o,A=ai ⟨b,o,ay⟩):
  Calls P (ρ.f 22) #[.slice A n c,.int .i64 i,.slice B 0 vc] w λe w'=>e=.returned (.slice A n c)/\w'=w:=by
 have t3:=l.t3;have a3:=l.a3;have t4:=l.t4;have a4:=l.a4;have t24:=l.t24;have a24:=l.a24;have z9:=l.z9;have u3:=run_underlying l.t3;have u4:=run_underlying l.t4;have u24:=run_underlying l.t24;have hb1:(0:az)<=(i:az):=by omega
 have hb2:(i:az)<=(n:az):=by omega
 go_enter l.f22,Body2.n22_ntmps ρ;rcases hA with ⟨rfl,rfl⟩|⟨b,o,rfl⟩
 ·obtain rfl:i=0:=by omega
  go_wp2;go_ret;exact⟨rfl,rfl⟩
 ·go_wp2;all_goals (go_ret;exact⟨rfl,rfl⟩)
set_option maxHeartbeats 4000000 in
set_option maxRecDepth 100000 in
def atEnd(l:L P ρ nm sz)(w w1:cN)(A B:aG Addr)(n c m vc:aN)(r:bS)(hm:0<m)(hn:n<=9223372036854775807)(hA:A=ay/\n=0\/∃b o,A=ai ⟨b,o,ay⟩)
  (h1:∀ty,(iu #[ρ.t 24,ρ.t 24] ty #[.slice A n c,.slice B m vc]).run P w=.ok r w1):
  Calls P (ρ.f 22) #[.slice A n c,.int .i64 n,.slice B m vc] w λe w'=>e=.returned r/\w'=w1:=by
 have t3:=l.t3;have a3:=l.a3;have t4:=l.t4;have a4:=l.a4;have t24:=l.t24;have a24:=l.a24;have z9:=l.z9;have u3:=run_underlying l.t3;have u4:=run_underlying l.t4;have u24:=run_underlying l.t24;have hz1:¬((m:az)=0):=by omega
 go_enter l.f22,Body2.n22_ntmps ρ;rcases hA with ⟨rfl,rfl⟩|⟨b,o,rfl⟩
 ·go_wp2_with (at_builtin;refine uK _ rfl _ _ _ _ rfl _ _ rfl rfl _ _ (h1 _) ?_)
  go_ret;exact⟨rfl,rfl⟩
 ·go_wp2_with (at_builtin;refine uK _ rfl _ _ _ _ rfl _ _ rfl rfl _ _ (h1 _) ?_)
  all_goals (go_ret;exact⟨rfl,rfl⟩)
set_option maxHeartbeats 4000000 in
set_option maxRecDepth 100000 in
def shift(l:L P ρ nm sz)(w w1 w2:cN)(x1 x2:bS)(b o n c i m vc:aN)(B:aG Addr)(hi:i<n)(hm:0<m)(hroom:n+m<=c)(hc63:c<=9223372036854775807)
  (hov:∀lb cb,(callFunc (ρ.f 29) #[.slice B m vc,.slice (ai ⟨b,o+(i+m)*sz,ay⟩) lb cb]).run P w=.ok (.value (.bool aq)) w)
  (h1:∀ty,(gF #[ρ.t 24,ρ.t 24] ty #[.slice (ai ⟨b,o+(i+m)*sz,ay⟩) (n+m-(i+m)) (c-(i+m)),.slice (ai ⟨b,o+i*sz,ay⟩) (n+m-i) (c-i)]).run P w.drew=.ok x1 w1)
  (h2:∀ty,(gF #[ρ.t 24,ρ.t 24] ty #[.slice (ai ⟨b,o+i*sz,ay⟩) (n+m-i) (c-i),.slice B m vc]).run P w1=.ok x2 w2):
  Calls P (ρ.f 22) #[.slice (ai ⟨b,o,ay⟩) n c,.int .i64 i,.slice B m vc] w λe w'=>e=.returned (.slice (ai ⟨b,o,ay⟩) (n+m) c)/\w'=w2:=by
 have t3:=l.t3;have a3:=l.a3;have t4:=l.t4;have a4:=l.a4;have t24:=l.t24;have a24:=l.a24;have z9:=l.z9;have u3:=run_underlying l.t3;have u4:=run_underlying l.t4;have u24:=run_underlying l.t24;have hz1:¬((m:az)=0):=by omega
 have hz2:¬((i:az)=(n:az)):=by omega
 have mixed:=l.mixed;have hw1:ak.wrap ((i:az)+(m:az))=(i:az)+(m:az):=by rw[qy];omega
 have hb1:(0:az)<=(i:az)+(m:az):=by omega
 have hin:i<=n:=by omega
 have htn:((i:az)+(m:az)).toNat=i+m:=by omega
 have hb2:¬(c=i+m):=by omega
 have hb3:(i:az)<=(n:az)+(m:az):=by omega
 have hb4:¬(c=i):=by omega
 go_enter l.f22,Body2.n22_ntmps ρ;go_wp2_with (simp only[hov])
 go_region_law_o (refine step_copy rfl _ _ (ρ.t 24) (ρ.t 24) rfl _ _ (by simp[Ie,Vl]) (by simp[Ie,Vl]) (h1 _) ?_);go_wp2_with (at_builtin;refine wpList_copy _ rfl _ _ (ρ.t 24) (ρ.t 24) rfl _ _ rfl rfl (h2 _) ?_)
 go_ret;exact⟨rfl,rfl⟩
set_option maxHeartbeats 4000000 in
set_option maxRecDepth 100000 in
def grow(l:L P ρ nm sz)(w w1 w2 w3:cN)(x2 x3:bS)(b o b' n c c' i m vc:aN)(B:aG Addr)(hi:i<n)(hm:0<m)(hnc:n<=c)(hroom:c<n+m)(aqj:n+m<=9223372036854775807)(hc':n+m<=c')(hc63:c'<=9223372036854775807)
  (h1:∀ty,(iu #[ρ.t 24,ρ.t 3] ty #[.slice (ai ⟨b,o,ay⟩) i c,.int .i64 ((n:az)+(m:az)-(i:az))]).run P w=.ok (.slice (ai ⟨b',0,ay⟩) (n+m) c') w1)
  (h2:∀ty,(gF #[ρ.t 24,ρ.t 24] ty #[.slice (ai ⟨b',i*sz,ay⟩) (n+m-i) (c'-i),.slice B m vc]).run P w1=.ok x2 w2)
  (h3:∀ty,(gF #[ρ.t 24,ρ.t 24] ty #[.slice (ai ⟨b',(i+m)*sz,ay⟩) (n+m-(i+m)) (c'-(i+m)),.slice (ai ⟨b,o+i*sz,ay⟩) (n-i) (c-i)]).run P w2.drew=.ok x3 w3):
  Calls P (ρ.f 22) #[.slice (ai ⟨b,o,ay⟩) n c,.int .i64 i,.slice B m vc] w λe w'=>e=.returned (.slice (ai ⟨b',0,ay⟩) (n+m) c')/\w'=w3:=by
 have t3:=l.t3;have a3:=l.a3;have t4:=l.t4;have a4:=l.a4;have t24:=l.t24;have a24:=l.a24;have z9:=l.z9;have u3:=run_underlying l.t3;have u4:=run_underlying l.t4;have u24:=run_underlying l.t24;have hz1:¬((m:az)=0):=by omega
 have hz2:¬((i:az)=(n:az)):=by omega
 have hz3:(c:az)<(n:az)+(m:az):=by omega
 have mixed:=l.mixed;have hw0:ak.wrap ((n:az)+(m:az))=(n:az)+(m:az):=by rw[qy];omega
 have hw2:ak.wrap ((n:az)+(m:az)-(i:az))=(n:az)+(m:az)-(i:az):=by rw[qy];omega
 have hw1:ak.wrap ((i:az)+(m:az))=(i:az)+(m:az):=by rw[qy];omega
 have hb1:(0:az)<=(i:az)+(m:az):=by omega
 have hin:i<=n:=by omega
 have htn:((i:az)+(m:az)).toNat=i+m:=by omega
 have hGi:¬(c'=i):=by omega
 have hGim:¬(c'=i+m):=by omega
 have hci:¬(c=i):=by omega
 have hic:i<=c:=by omega
 have hb3:(i:az)<=(n:az):=by omega
 have hb4:(i:az)<=(n:az)+(m:az):=by omega
 go_enter l.f22,Body2.n22_ntmps ρ
 go_wp2_with (first
  |(at_builtin;refine uK _ rfl _ _ _ _ rfl _ _ rfl rfl _ _ (h1 _) ?_)
  |(at_builtin;refine wpList_copy _ rfl _ _ (ρ.t 24) (ρ.t 24) rfl _ _ rfl rfl (h2 _) ?_))
 go_region_law_o (refine step_copy rfl _ _ (ρ.t 24) (ρ.t 24) rfl (.slice (ai ⟨b',(i+m)*sz,ay⟩) (n+m-(i+m)) (c'-(i+m))) (.slice (ai ⟨b,o+i*sz,ay⟩) (n-i) (c-i)) (by simp[Ie,Vl]) (by simp[Ie,Vl]) (h3 (ρ.t 3)) ?_);go_wp2;go_ret;exact⟨rfl,rfl⟩
end Go.FG.Ins
namespace Go.FG.Ins
open Go Go.Shelf Go.RowKit Go.Lib Go.Proofs
section
variable {P:dx}
def run_copyG(hu:P.underlying dT=ai (.slice elem))(hs:∀w,(sizeOf elem).run P w=.ok sz w)
  (hf:(fu sz m (.slice B sLen sCap)).run P w=.ok cs.toArray w) (hm:R3 sLen dLen=m) (hb:og w b cur) (hl:o+cs.length<=cur.size) (h1:∀v∈cs,v.oneCell'=ao):
  (gF #[dT,sT] ty #[.slice (ai (ad b o)) dLen dCap,.slice B sLen sCap]).run P w=.ok (goInt m) (w.setRow b (ew cur o cs)):=by have hst:=nS (P:=P) w hb hl h1;have hm':min sLen dLen=m:=hm;simp[gF,run_underlying hu,pR,hs,hm',hf,hst]
def blk_drew(h:og w b cur):og w.drew b cur:=h
def cell_setRow_other{w:cN}{b b2 o:aN}{new:eN bS}(h:b2≠b):(w.setRow b new).cell? (ad b2 o)=w.cell? (ad b2 o):=vG (setRow_other w b b2 _ h)
structure Insd (w w':cN) (p p':Pl) (i m:aN) (news:aE bS):Prop where
 n:p'.n=p.n+m
 sz:p'.sz=p.sz
 nil:p'.nil=ao->p'.cap=0/\p.n=0/\m=0
 mem:p'.nil=aq->∃oL,og w' p'.blk oL/\p'.n<=p'.cap/\p'.cap<=maxLen/\p'.off+p'.cap*p'.sz<=oL.size/\
  (∀k u,k<i*p.sz->w.cell? (ad p.blk (p.off+k))=ai u->oL[p'.off+k]? =ai u)/\(∀k,k<m*p.sz->oL[p'.off+i*p.sz+k]? =news[k]?)/\
  (∀k u,k<(p.n-i)*p.sz->w.cell? (ad p.blk (p.off+i*p.sz+k))=ai u->oL[p'.off+(i+m)*p.sz+k]? =ai u)
 blk:p'.nil=aq->(p.nil=aq/\p'.blk=p.blk)\/p'.blk=w.heap.size
 old:∀b,b<w.heap.size->(p'.nil=aq->b≠p'.blk)->w'.heap[b]? =w.heap[b]?
 size:w.heap.size<=w'.heap.size
 os:w'.os=w.os
 tape:w'.tape=w.tape
 output:w'.output=w.output
structure Pre (w:cN) (p:Pl):Prop where
 nil:p.nil=ao->p.n=0/\p.cap=0
 mem:p.nil=aq->∃gW,og w p.blk gW/\p.n<=p.cap/\p.cap<=maxLen/\p.off+p.cap*p.sz<=gW.size
variable {ρ:Ren} {nm:String}
def overlaps_false(ht:P.underlying tS=ai (.slice e))(hz:∀w,(Go.sizeOf e).run P w=.ok size w)(hb:og w b gW)(ho:o<gW.size)
  (hB:∀a,B=ai a->0<m->a.block≠b/\∃t k,w.shape? a.block=ai (t,k+1)) (lb cb:aN):
  (la #[tS,tS] #[tR] #[.slice B m vc,.slice (ai (ad b o)) lb cb]).run P w=.ok (.bool aq) w:=by
 obtain⟨t,fr,hg,hfr⟩:=hb;have hsb:w.shape? b=ai (t,gW.size):=by simp[Y8,hg]
 have f1:w.frozen? ⟨b,o,ay⟩=false:=by have:=hfr o (by omega);simpa [Y7,hg]using this
 have f2:w.frozen? ⟨b,gW.size,ay⟩=false:=by have:=hfr gW.size (bW _);simpa [Y7,hg]using this
 have hne0:gW.size≠0:=by omega
 change nu P (α:=bS) (do
  let ai t:=(#[tS,tS]:eN TypeId)[0]? |stuck "slices.overlaps: no parameter types"
  let .slice elem<-underlying t|stuck "slices.overlaps: slice type expected"
  let size<-sizeOf elem
  match B,(ai (ad b o):aG Addr)with
  |some a,ai b=>
   if m=0\/lb=0\/size=0 then pure (DN aq)
   else if a.block !=b.block&&(<-frozen a)&&(<-frozen b)then unsupported .addressObserved
   else do
    if a.block !=b.block then do
     noView a;noView b
     if<-mayBeOne a b then return DN ((<-choose (.extern "sameAddr.stringBytes" 2))==1)
    pure (DN (a.block==b.block&&a.off<b.off+lb*size&&b.off<a.off+m*size))
  |_,_=>pure (DN aq)) w=_
 cases B with
 |none=>simp[run_underlying ht,hz]
 |some a=>
  by_cases h0:m=0\/lb=0\/size=0
  ·simp[run_underlying ht,hz,h0]
  ·have hm:0<m:=by omega
   obtain⟨hne,ta,k,hsa⟩:=hB a rfl hm;have ZX:(a.block !=b)=true:=by simpa using hne
   have hnb':(a.block==b)=false:=by simpa using hne
   obtain⟨n,hn⟩:∃n,gW.size=n+1:=⟨gW.size-1,by omega⟩
   rw[hn]at hsb f2;simp[run_underlying ht,hz,h0,ZX,hnb',hne,frozen,noView,viewAt,mayBeOne,stringish,shape,nu,hsa,hsb,f1,f2]
def first_of{w:cN}{sz m b o len cap:aN}{cs:aE bS}(hl:cs.length=m*sz)(h:∀j u,cs[j]? =ai u->w.cell? (ad b (o+j))=ai u):(fu sz m (.slice (ai (ad b o)) len cap)).run P w=.ok cs.toArray w:=
 run_firstCells_some w sz m _ _ _ cs hl (λj v hj=>by rw[Addr.ot];exact h j v hj)
def insert_run{sz:aN}(l:L P ρ nm sz){inf:TypeInfo}{z:bS}(hi:P.info? (ρ.t 9)=ai inf)(hz:inf.zero=ai z)(hzs:z.cells.size=sz)(hsz:inf.size=sz)(Pq:0<sz)
  (hov:∀args w,(callFunc (ρ.f 29) args).run P w=((la #[ρ.t 24,ρ.t 24] #[ρ.t 4] args).run P w).andThen λv w'=>.ok (.value v) w')
  {w:cN} {p:Pl} (hp:p.sz=sz) (pre:Pre w p) {i m vc:aN} {B:aG Addr} {news:aE bS} (hin:i<=p.n) (hv:news.length=m*sz) (hB:m=0\/∃b2 o2,B=ai (ad b2 o2)/\(p.nil=aq->b2≠p.blk)/\∀j u,news[j]? =ai u->w.cell? (ad b2 (o2+j))=ai u)
  (SI:∀v∈news,v.oneCell'=ao) (h1:(p.n+m)*inf.bytes<=140737488355328) (h2:p.n+m<=9223372036854775807) (hone2:∀gW k v,p.nil=aq->og w p.blk gW->k<p.n*sz->gW[p.off+k]? =ai v->v.oneCell'=ao):
  ∃p' w',Insd w w' p p' i m news/\Calls P (ρ.f 22) #[kX p,.int .i64 i,.slice B m vc] w (λe w2=>e=.returned (kX p')/\w2=w'):=by
 subst hp;have hnm:p.n<=9223372036854775807:=by omega
 rcases DP m with rfl|hm
 ·refine⟨p,w,⟨rfl,rfl,λh=>⟨(pre.nil h).2,(pre.nil h).1,rfl⟩,λh=> ?_,λh=>.inl ⟨h,rfl⟩,λ_ _ _=>rfl,bW _,rfl,rfl,rfl⟩,?_⟩
  ·obtain⟨gW,hb,q1,q2,q3⟩:=pre.mem h;refine⟨gW,hb,q1,q2,q3,λk u _ hu=>by rw[<-hb.cell];exact hu,λk hk=>by simp at hk,λk u _ hu=> ?_⟩
   rw[<-hb.cell,BJ];exact hu
  ·cases hq:p.nil with
   |true=>have h0:=(pre.nil hq).1;rw[nO hq];have:=zero l w ay B 0 0 i vc (by omega) (by omega) (.inl ⟨rfl,rfl⟩);exact this
   |false=>rw[eS hq];exact zero l w _ B p.n p.cap i vc hin hnm (.inr ⟨_,_,rfl⟩)
 ·obtain⟨b2,o2,rfl,hb2,hcell⟩:=hB.resolve_left (by omega);by_cases hend:i=p.n
  ·subst hend;have happ:App P w (ρ.t 24) (.slice (ai (ad b2 o2)) m vc) z.cells p.sz m news:=by refine⟨.inl ⟨.inl ⟨_,l.t24⟩,by simp[pR],first_of hv hcell,first_of (w:=w.drew) hv hcell⟩,hv,SI⟩
   obtain⟨p',w',hr,hA⟩:=uy (P:=P) (w:=w) (t:=ρ.t 24) (u:=ρ.t 24) (ty:=0) (p:=p) l.t24 hi hz hzs hsz (λh=>(pre.nil h).1) pre.mem happ h1 h2;refine⟨p',w',⟨hA.n,hA.sz,hA.nil,λh=> ?_,hA.blk,hA.old,hA.size,hA.os,hA.tape,hA.output⟩,?_⟩
   ·obtain⟨oL,q1,q2,q3,q4,q5,q6⟩:=hA.mem h;exact⟨oL,q1,q2,q3,q4,q5,q6,λk u hk _=>by simp at hk⟩
   ·have hr':∀ty,(iu #[ρ.t 24,ρ.t 24] ty #[kX p,.slice (ai (ad b2 o2)) m vc]).run P w=.ok (kX p') w':=λty=>hr;cases hq:p.nil with
    |true=>have h0:=(pre.nil hq).1;rw[nO hq]at hr'⊢;have:=atEnd l w w' ay (ai (ad b2 o2)) 0 0 m vc (kX p') hm (by omega) (.inl ⟨rfl,rfl⟩) hr';rw[h0];exact this
    |false=>rw[eS hq]at hr'⊢;exact atEnd l w w' _ (ai (ad b2 o2)) p.n p.cap m vc (kX p') hm hnm (.inr ⟨_,_,rfl⟩) hr'
  ·have hlt:i<p.n:=by omega
   have hq:p.nil=false:=by
    cases h:p.nil with
    |false=>rfl
    |true=>have:=(pre.nil h).1;omega
   obtain⟨gW,hb,hnc,hcm,amS⟩:=pre.mem hq;have hne:=hb2 hq;rw[eS hq];have m1:i*p.sz<=p.n*p.sz:=b9 _ hin;have m2:p.n*p.sz<=p.cap*p.sz:=b9 _ hnc;have e1:(i+m)*p.sz=i*p.sz+m*p.sz:=dv _ _ _;have e2:(p.n-i)*p.sz=p.n*p.sz-i*p.sz:=vH _ _ _;have m0:i*p.sz+p.sz<=p.n*p.sz:=by have:=b9 p.sz (show i+1<=p.n by omega);rwa[dv,Nat.one_mul]at this
   have hp0:p.sz<=m*p.sz:=Nat.le_mul_of_pos_left _ hm;have n1:R3 (p.n+m-i) (p.n+m-(i+m))=p.n-i:=by simp only[Mv];split<;>omega
   have n2:R3 m (p.n+m-i)=m:=by simp only[Mv];split<;>omega
   have n3:R3 (p.n-i) (p.n+m-(i+m))=p.n-i:=by simp only[Mv];split<;>omega
   let tail:=(gW.toList.drop (p.off+i*p.sz)).take ((p.n-i)*p.sz);have htl:tail.length=(p.n-i)*p.sz:=by simp only[tail,dG,g_,dM];omega
   have htg:∀k,k<(p.n-i)*p.sz->tail[k]? =gW[p.off+i*p.sz+k]? :=λk hk=>by simp only[tail,ej,bm hk,eh,da]
   have ht1:∀v∈tail,v.oneCell'=true:=λv hv=>by
    obtain⟨k,hk⟩:=b5 hv;have hkl:k<(p.n-i)*p.sz:=by rw[<-htl];exact(aW.1 hk).1
    rw[htg k hkl]at hk;exact hone2 gW (i*p.sz+k) v hq hb (by omega) (by rw[<-kc];exact hk)
   by_cases hroom:p.n+m<=p.cap
   ·-- in place
    have m3:(p.n+m)*p.sz<=p.cap*p.sz:=b9 _ hroom;rw[dv]at m3;have Pm:p.off+(i+m)*p.sz+tail.length<=gW.size:=by rw[htl];omega
    have hb1:og (w.drew.setRow p.blk (ew gW (p.off+(i+m)*p.sz) tail)) p.blk (ew gW (p.off+(i+m)*p.sz) tail):=og.setRow (w:=w.drew) (blk_drew hb) (eT Pm);have Pn:p.off+i*p.sz+news.length<=(ew gW (p.off+(i+m)*p.sz) tail).size:=by rw[eT Pm,hv];omega
    have c1:∀ty,(gF #[ρ.t 24,ρ.t 24] ty #[.slice (ai ⟨p.blk,p.off+(i+m)*p.sz,ay⟩) (p.n+m-(i+m)) (p.cap-(i+m)),.slice (ai ⟨p.blk,p.off+i*p.sz,ay⟩) (p.n+m-i) (p.cap-i)]).run P w.drew=.ok (goInt ((p.n-i:aN):az)) (w.drew.setRow p.blk (ew gW (p.off+(i+m)*p.sz) tail)):=λty=>
     run_copyG (P:=P) (w:=w.drew) l.t24 l.z9 (first_of (w:=w.drew) htl (λj u hj=>by
      have hjl:j<(p.n-i)*p.sz:=by rw[<-htl];exact(aW.1 hj).1
      rw[htg j hjl]at hj;exact(hb.cell _).trans hj)) n1 (blk_drew hb) Pm ht1
    have c2:∀ty,(gF #[ρ.t 24,ρ.t 24] ty #[.slice (ai ⟨p.blk,p.off+i*p.sz,ay⟩) (p.n+m-i) (p.cap-i),.slice (ai (ad b2 o2)) m vc]).run P (w.drew.setRow p.blk (ew gW (p.off+(i+m)*p.sz) tail))=.ok (goInt m) ((w.drew.setRow p.blk (ew gW (p.off+(i+m)*p.sz) tail)).setRow p.blk (ew (ew gW (p.off+(i+m)*p.sz) tail) (p.off+i*p.sz) news)):=λty=>
     run_copyG (P:=P) l.t24 l.z9 (first_of hv (λj u hj=>by rw[cell_setRow_other hne];exact hcell j u hj)) n2 hb1 Pn SI
    have hcal:=shift l w _ _ _ _ p.blk p.off p.n p.cap i m vc (ai (ad b2 o2)) hlt hm hroom hcm (λlb cb=>by
     rw[hov,overlaps_false (P:=P) (w:=w) l.t24 l.z9 hb (o:=p.off+(i+m)*p.sz) (by omega) (λa ha _=>by
      cases ha;have h0:0<news.length:=by rw[hv];omega
      have:=hcell 0 _ (fC h0);refine⟨hne,?_⟩
      unfold OQ at this;unfold Y8;split at this
      ·rename_i cc tt ff hg;rw[hg];simp at this;obtain⟨hlt2,_⟩:=dD.1 this;exact⟨tt,cc.size-1,by simp;omega⟩
      ·cases this) lb cb]
     rfl) c1 c2
    refine⟨⟨aq,p.blk,p.off,p.cap,p.n+m,p.sz⟩,(w.drew.setRow p.blk (ew gW (p.off+(i+m)*p.sz) tail)).setRow p.blk (ew (ew gW (p.off+(i+m)*p.sz) tail) (p.off+i*p.sz) news),⟨rfl,rfl,λh=>(by cases h),λ_=> ?_,λ_=>.inl ⟨hq,rfl⟩,λb hb' ZX=> ?_,by simp[lJ],rfl,rfl,rfl⟩,by rw[eS rfl];exact hcal⟩
    ·refine⟨_,hb1.setRow (eT Pn),hroom,hcm,by rw[eT Pn,eT Pm];exact amS,λk u hk hu=> ?_,λk hk=> ?_,λk u hk hu=> ?_⟩
     ·show(ew (ew gW (p.off+(i+m)*p.sz) tail) (p.off+i*p.sz) news)[p.off+k]? =ai u;rw[gv Pn,bk (by omega),gv Pm,bk (by omega),<-hb.cell];exact hu
     ·show(ew (ew gW (p.off+(i+m)*p.sz) tail) (p.off+i*p.sz) news)[p.off+i*p.sz+k]? =news[k]?;rw[gv Pn,bm (by rw[hv];omega)];congr 1;omega
     ·show(ew (ew gW (p.off+(i+m)*p.sz) tail) (p.off+i*p.sz) news)[p.off+(i+m)*p.sz+k]? =ai u;rw[gv Pn,bk (by rw[hv];omega),gv Pm,bm (by rw[htl];omega),show p.off+(i+m)*p.sz+k-(p.off+(i+m)*p.sz)=k by omega,htg k hk,<-hb.cell];exact hu
    ·have hbne:b≠p.blk:=ZX rfl;rw[setRow_other _ _ b _ hbne,setRow_other _ _ b _ hbne];rfl
   ·-- a new row
    have hgo:p.cap<p.n+m:=by omega
    let Lk:=(gW.toList.drop p.off).take (i*p.sz);have hol:Lk.length=i*p.sz:=by simp only[Lk,dG,g_,dM];omega
    have hog:∀k,k<i*p.sz->Lk[k]? =gW[p.off+k]? :=λk hk=>by simp only[Lk,ej,bm hk,eh,da]
    have hik:i+(p.n+m-i)=p.n+m:=by omega
    have hkk:(p.n:az)+(m:az)-(i:az)=((p.n+m-i:aN):az):=by omega
    have hold:(fu inf.size i (.slice (ai (ad p.blk p.off)) i p.cap)).run P w.drew=.ok Lk.toArray w.drew:=by
     rw[hsz];exact first_of (w:=w.drew) hol (λj u hj=>by
      have hjl:j<i*p.sz:=by rw[<-hol];exact(aW.1 hj).1
      rw[hog j hjl]at hj;exact(hb.cell _).trans hj)
    have hG:=grownCap_ge w (p.n+m) p.cap (ρ.t 9);have hG2:=grownCap_le_maxLen w (p.n+m) p.cap (ρ.t 9) (by unfold maxLen;omega);generalize hGd:grownCap w (p.n+m) p.cap (ρ.t 9)=G at hG hG2;obtain⟨arr,harr⟩:∃arr:eN bS,arr=Lk.toArray++fS z.cells (p.n+m-i)++fS z.cells (G-(p.n+m)):=⟨_,rfl⟩
    have a1:∀ty,(iu #[ρ.t 24,ρ.t 3] ty #[.slice (ai ⟨p.blk,p.off,ay⟩) i p.cap,.int .i64 ((p.n:az)+(m:az)-(i:az))]).run P w=.ok (.slice (ai ⟨w.heap.size,0,ay⟩) (p.n+m) G) (w.drew.alloc (.cells arr (ρ.t 9))):=λty=>by have hmb:(p.n+m-i)*inf.bytes<=(p.n+m)*inf.bytes:=b9 _ (by omega);have h:=Lib.run_append_grow_zeros w (ρ.t 24) (ρ.t 3) ty (ρ.t 9) inf z .i64 .i64 l.t24 l.t3 hi hz (ai (ad p.blk p.off)) i p.cap Lk hold (p.n+m-i) (by omega) (by omega) (by omega) (by omega) (by omega) (by rw[hik];exact growslice_fits hgo h1);rw[hik,hGd,<-harr]at h;rw[hkk];exact h
    have sarr:arr.size=i*p.sz+(p.n+m-i)*p.sz+(G-(p.n+m))*p.sz:=by rw[harr];simp only[Array.size_append,Cr,size_zeroCells,hzs,hol]
    have e3:(p.n+m-i)*p.sz=p.n*p.sz+m*p.sz-i*p.sz:=by rw[vH,dv]
    have e4:G*p.sz=(p.n*p.sz+m*p.sz)+(G-(p.n+m))*p.sz:=by rw[<-dv,<-dv];congr 1;omega
    have hbw:p.blk<w.heap.size:=hb.lt;have hb0:og (w.drew.alloc (.cells arr (ρ.t 9))) w.heap.size arr:=og.alloc w.drew arr _;have Pm:i*p.sz+news.length<=arr.size:=by rw[sarr,hv];omega
    have hb1:=hb0.setRow (new:=ew arr (i*p.sz) news) (eT Pm);have Pn:(i+m)*p.sz+tail.length<=(ew arr (i*p.sz) news).size:=by rw[eT Pm,sarr,htl];omega
    have hb2w:b2<w.heap.size:=by
     have h0:0<news.length:=by rw[hv];omega
     exact block_lt_of_cell (hcell 0 _ (fC h0))
    have oldc:∀b o,b<w.heap.size->(w.drew.alloc (.cells arr (ρ.t 9))).cell? (ad b o)=w.cell? (ad b o):=λb o hbl=>vG (heap_alloc_old w.drew _ hbl);have c1:∀ty,(gF #[ρ.t 24,ρ.t 24] ty #[.slice (ai ⟨w.heap.size,i*p.sz,ay⟩) (p.n+m-i) (G-i),.slice (ai (ad b2 o2)) m vc]).run P (w.drew.alloc (.cells arr (ρ.t 9)))=.ok (goInt m) ((w.drew.alloc (.cells arr (ρ.t 9))).setRow w.heap.size (ew arr (i*p.sz) news)):=λty=>
     run_copyG (P:=P) l.t24 l.z9 (first_of hv (λj u hj=>by rw[oldc _ _ hb2w];exact hcell j u hj)) n2 hb0 Pm SI
    have c2:∀ty,(gF #[ρ.t 24,ρ.t 24] ty #[.slice (ai ⟨w.heap.size,(i+m)*p.sz,ay⟩) (p.n+m-(i+m)) (G-(i+m)),.slice (ai ⟨p.blk,p.off+i*p.sz,ay⟩) (p.n-i) (p.cap-i)]).run P ((w.drew.alloc (.cells arr (ρ.t 9))).setRow w.heap.size (ew arr (i*p.sz) news)).drew=.ok (goInt ((p.n-i:aN):az)) (((w.drew.alloc (.cells arr (ρ.t 9))).setRow w.heap.size (ew arr (i*p.sz) news)).drew.setRow w.heap.size (ew (ew arr (i*p.sz) news) ((i+m)*p.sz) tail)):=λty=>
     run_copyG (P:=P) (w:=((w.drew.alloc (.cells arr (ρ.t 9))).setRow w.heap.size (ew arr (i*p.sz) news)).drew) l.t24 l.z9 (first_of htl (λj u hj=>by
      have hjl:j<(p.n-i)*p.sz:=by rw[<-htl];exact(aW.1 hj).1
      rw[htg j hjl]at hj;show((w.drew.alloc (.cells arr (ρ.t 9))).setRow w.heap.size (ew arr (i*p.sz) news)).cell? (ad p.blk (p.off+i*p.sz+j))=ai u;rw[cell_setRow_other (by omega),oldc _ _ hbw];exact(hb.cell _).trans hj)) n3 (blk_drew hb1) Pn ht1
    have hcal:=grow l w _ _ _ _ _ p.blk p.off w.heap.size p.n p.cap G i m vc (ai (ad b2 o2)) hlt hm hnc hgo h2 hG hG2 a1 c1 c2;refine⟨⟨aq,w.heap.size,0,G,p.n+m,p.sz⟩,((w.drew.alloc (.cells arr (ρ.t 9))).setRow w.heap.size (ew arr (i*p.sz) news)).drew.setRow w.heap.size (ew (ew arr (i*p.sz) news) ((i+m)*p.sz) tail),⟨rfl,rfl,λh=>(by cases h),λ_=> ?_,λ_=>.inr rfl,λb hb' ZX=> ?_,by simp[lJ],rfl,rfl,rfl⟩,by rw[eS rfl];exact hcal⟩
    ·refine⟨_,og.setRow (w:=((w.drew.alloc (.cells arr (ρ.t 9))).setRow w.heap.size (ew arr (i*p.sz) news)).drew) (blk_drew hb1) (eT Pn),hG,hG2,by rw[eT Pn,eT Pm,sarr];show 0+G*p.sz<=_;omega,λk u hk hu=> ?_,λk hk=> ?_,λk u hk hu=> ?_⟩
     ·show(ew (ew arr (i*p.sz) news) ((i+m)*p.sz) tail)[0+k]? =ai u;rw[bV,gv Pn,bk (by omega),gv Pm,bk (by omega),harr,OI,Et (by simp[hol];omega),ib,hog k hk,<-hb.cell];exact hu
     ·show(ew (ew arr (i*p.sz) news) ((i+m)*p.sz) tail)[0+i*p.sz+k]? =news[k]?;rw[bV,gv Pn,bk (by omega),gv Pm,bm (by rw[hv];omega)];congr 1;omega
     ·show(ew (ew arr (i*p.sz) news) ((i+m)*p.sz) tail)[0+(i+m)*p.sz+k]? =ai u;rw[bV,gv Pn,bm (by rw[htl];omega),show(i+m)*p.sz+k-(i+m)*p.sz=k by omega,htg k hk,<-hb.cell];exact hu
    ·have hbne:b≠w.heap.size:=by omega
     rw[setRow_other _ _ b _ hbne];show((w.drew.alloc (.cells arr (ρ.t 9))).setRow w.heap.size (ew arr (i*p.sz) news)).heap[b]? =_;rw[setRow_other _ _ b _ hbne,heap_alloc_old w.drew _ hb'];rfl
end
end Go.FG.Ins
namespace Go.FG.Ins
open Go Go.Shelf Go.RowKit Go.Lib Go.Proofs
abbrev ofTab(T:Tab):gy:={toTab:=T,call:=λ_ _=>ay,om:=λ_ _=>.nat,mode:=λ_ _=>aq,keep:=λ_=>[],tk:=λ_=>false}
def holdsK(h:Holds T w K v (.l e ys))(h0:ys≠[])(hv:v=.slice (ai (ad b o)) n c):K b:=by
 cases h with
 |nl=>exact cO rfl h0
 |l e xs b' o' c' ti' U ht hc hm hK hs hcell hin=>cases hv;exact hK
def yj(e bytes:aN):aE gD->aG (aZ×iO)
 |[.v aq [.ow e1 ao xs],.v aq [.i .i64 i],.v aq [.sh e2 ys]]=>bif bN e1 e&&bN e2 e then
  ai (ah (0<=i)&&ah (i<=(xs.length:az))&&b_ (xs.length+ys.length) bytes,⟨[.v aq [.ow e ao (Pu.uh xs i.toNat ys)]],[]⟩)else ay
 |_=>ay
def insR_get(h:i<=xs.length)(k:aN)(y:aE CV)(hk:(Pu.uh xs i ys)[k]? =ai y):
  (k<i/\xs[k]? =ai y)\/(i<=k/\k<i+ys.length/\ys[k-i]? =ai y)\/(i+ys.length<=k/\xs[k-ys.length]? =ai y):=by
 unfold Pu.uh at hk;have hl:(xs.take i).length=i:=by simp;omega
 by_cases h1:k<i
 ·rw[cg,dz (by omega),ej,bm h1]at hk;exact .inl ⟨h1,hk⟩
 ·by_cases h2:k<i+ys.length
  ·rw[cg,de (by omega),hl,dz (by omega)]at hk;exact .inr (.inl ⟨by omega,h2,hk⟩)
  ·rw[de (by simp;omega),eh]at hk;refine .inr (.inr ⟨by omega,?_⟩);rw[<-hk];congr 1;simp;omega
def kB(h:P.underlying t=ai d)(hb:sB d=ao)(w:cN):(Go.isAgg t).run P w=.ok aq w:=by simp only[Go.isAgg,cx,run_underlying h,bI];cases d<;>simp_all [sB]
def Ca(hE:eB P T)(h:T.ty t=ai ti)(w:cN):(sizeOf t).run P w=.ok ti.ks.length w:=by obtain⟨inf,hi,hs,_⟩:=hE.info t ti h;simp only[sizeOf,typeInfo,program,cx,nu,bI,hi,hs,c8]
section
variable {P:dx} {ρ:Ren} {nm:String} {T:Tab}
def z6(he:T.ty e=ai te)(hρ:ρ.t 9=e)(hp:plain te.ks=ao)(hE:eB P T)(l:L P ρ nm te.ks.length)
  (hov:∀args w,(callFunc (ρ.f 29) args).run P w=((la #[ρ.t 24,ρ.t 24] #[ρ.t 4] args).run P w).andThen λv w'=>.ok (.value v) w')
  (hfn:∃fn,P.funcs[ρ.f 22]? =ai fn/\fn.body.isSome=ao/\(fn.name== "runtime.NumGoroutine")=aq):lI P T (ρ.f 22) (yj e te.bytes):=by
 have hno:Li te.ks=true:=bE.2 λk hk=>by have:=bE.1 hp k hk;cases k<;>simp_all
 obtain⟨inf,hi,hsz,hby,Pq,hzz⟩:=hE.info e te he;obtain⟨z,hz,hzc,_⟩:=hzz hno;have hzs:z.cells.size=te.ks.length:=by rw[hzc];simp
 intro args r h w c1 vs Ej hs hv;refine⟨hfn,?_⟩
 unfold yj at h;split at h
 ·rename_i e1 xs i e2 ys;cases hb:(bN e1 e&&bN e2 e)with
  |false=>rw[hb]at h;cases h
  |true=>
   rw[hb,au]at h;simp only[aM]at hb;have:=aX hb.1;subst this;have:=aX hb.2;subst this;have h:=aL h;obtain⟨hc,rfl⟩:=bX h;simp only[aM,ba,b_]at hc;obtain⟨⟨c0,c2⟩,c3,c4⟩:=hc;obtain⟨v0,g0,s0⟩:=hv 0 _ rfl;obtain⟨v1,g1,s1⟩:=hv 1 _ rfl;obtain⟨v2,g2,s2⟩:=hv 2 _ rfl;have hvs:vs= #[v0,v1,v2]:=by
    have h3:vs.size=3:=hs;apply Array.ext_getElem?;intro k;match k with
    |0=>rw[g0];rfl
    |1=>rw[g1];rfl
    |2=>rw[g2];rfl
    |k+3=>rw[HX (by omega),HX (by simp)]
   subst hvs;have s0:v0=kX (c1.P (dU 0 0)):=s0;have s1:v1=.int .i64 i:=s1;have s2:Holds T w c1.K v2 (.l e2 ys):=s2;subst s0;subst s1;have hob:inj [.v aq [.ow e2 ao xs],.v aq [.i .i64 i],.v aq [.sh e2 ys]] (dj (dU 0 0))=.o (.row e2 ao xs):=rfl;obtain⟨⟨ti,ht,SJ,kJ⟩,Pj,aqo⟩:=Ej.obj _ _ hob;have hti:ti=te:=aL (ht.symm.trans he);subst hti;generalize hpd:c1.P (dU 0 0)=p at Pj SJ;have pre:Pre w p:=⟨λh=>by have:=Pj.nil h;exact⟨by rw[Pj.n,this.1];rfl,this.2⟩,λh=>by obtain⟨gW,q1,q2,q3,q4,_⟩:=Pj.mem h;exact⟨gW,q1,q2,q3,q4⟩⟩
   obtain⟨n,rfl⟩:∃n:aN,i=(n:az):=⟨i.toNat,by omega⟩
   have hnx:n<=xs.length:=by omega
   have adX:=Au (E:=ofTab T) he s2;have hyl:∀y∈ys,y.length=ti.ks.length:=λy hy=>by rw[<-adX.2 y hy];simp
   have hxl:∀y∈xs,y.length=ti.ks.length:=λy hy=>by rw[<-kJ y hy];simp
   obtain⟨B,vc,news,hv2,n1,n2,n3⟩:=adX.1.list hyl;have cellOf:∀k,k<ys.length*ti.ks.length->∃y x,ys[k/ti.ks.length]? =ai y/\y[k%ti.ks.length]? =ai x/\k/ti.ks.length*ti.ks.length+k%ti.ks.length=k:=by
    intro k hk;have h1:k/ti.ks.length<ys.length:=by rw[yS Pq];exact hk
    have h2:k%ti.ks.length<ys[k/ti.ks.length].length:=by rw[hyl _ (bF h1)];exact F0 _ Pq
    refine⟨_,_,fC h1,fC h2,?_⟩
    have:=JV k ti.ks.length;rw[Ii]at this;exact this
   have SI:∀v∈news,v.oneCell'=true:=λv hv=>by
    obtain⟨k,hk⟩:=b5 hv;have hkl:k<ys.length*ti.ks.length:=by rw[<-n1];exact(aW.1 hk).1
    obtain⟨y,x,q1,q2,q3⟩:=cellOf k hkl;obtain⟨u,hu,hr⟩:=n3 _ _ _ _ q1 q2;rw[q3,hk]at hu;cases hu;exact Holds.one (E:=ofTab T) hr
   have hKne:∀b,c1.K b->p.nil=aq->b≠p.blk:=λb hk hn he=>by exact Ej.kk _ _ p.blk hob (.inl ⟨by rw[hpd];exact hn,by rw[hpd]⟩) (he▸hk)
   have hB:ys.length=0\/∃b2 o2,B=ai (ad b2 o2)/\(p.nil=aq->b2≠p.blk)/\∀j u,news[j]? =ai u->w.cell? (ad b2 (o2+j))=ai u:=by
    rcases n2 with rfl|⟨b2,o2,rfl,hc2⟩
    ·exact .inl rfl
    ·by_cases h0:ys=[]
     ·subst h0;exact .inl rfl
     ·refine .inr ⟨b2,o2,rfl,λhn=> ?_,hc2⟩;exact hKne _ (holdsK s2 h0 hv2) hn
   have xrel:∀(k:aN) (y:aE CV) (j:aN) (x:CV),p.nil=aq->xs[k]? =ai y->y[j]? =ai x->∃u,w.cell? (ad p.blk (p.off+k*p.sz+j))=ai u/\Sc u x:=by intro k y j x hn hk hj;obtain⟨gW,q1,q2,q3,q4,q5⟩:=Pj.mem hn;obtain⟨u,hu,hr⟩:=q5 k y j x hk hj;rw[bm rfl]at hr;exact⟨u,by rw[q1.cell];exact hu,u7 (E:=ofTab T) hr (im hp (kJ y (aU hk)) hj)⟩
   have hone2:∀gW k v,p.nil=aq->og w p.blk gW->k<p.n*p.sz->gW[p.off+k]? =ai v->v.oneCell'=true:=by
    intro gW k v hn hbv hk hkv;rw[SJ]at hk;have h1:k/ti.ks.length<xs.length:=by rw[yS Pq,<-Pj.n];exact hk
    have h2:k%ti.ks.length<xs[k/ti.ks.length].length:=by rw[hxl _ (bF h1)];exact F0 _ Pq
    obtain⟨u,hu,hsc⟩:=xrel _ _ _ _ hn (fC h1) (fC h2);have:=JV k ti.ks.length;rw[Ii]at this;rw[SJ,show p.off+k/ti.ks.length*ti.ks.length+k%ti.ks.length=p.off+k by omega,hbv.cell,hkv]at hu;cases hu;rw[hsc.1];exact JG
   rw[hv2];obtain⟨p',w',hI,hcal⟩:=insert_run (P:=P) (sz:=ti.ks.length) l (by rw[hρ];exact hi) hz hzs hsz Pq hov SJ pre (i:=n) (m:=ys.length) (vc:=vc) (by rw[Pj.n];exact hnx) n1 hB SI (by rw[Pj.n,hby];exact c3) (by rw[Pj.n];exact c4) (λgW k v h1 h2 h3 h4=>hone2 gW k v h1 h2 (by rw[SJ];exact h3) h4);refine hcal.mono ?_;intro e1 w2 hh;rw[hh.1,hh.2];show Im T _ _ c1 w (kX p') w';rw[dX];generalize hzd:Pu.uh xs n ys=zs;have hzl:zs.length=xs.length+ys.length:=by rw[<-hzd];unfold Pu.uh;simp;omega
   have hzg:∀(k:aN) (y:aE CV),zs[k]? =ai y->(k<n/\xs[k]? =ai y)\/(n<=k/\k<n+ys.length/\ys[k-n]? =ai y)\/(n+ys.length<=k/\xs[k-ys.length]? =ai y):=λk y hk=>insR_get hnx k y (by rw[hzd];exact hk);have hzsh:∀y∈zs,y.map CV.kd=ti.ks:=λy hy=>by
    obtain⟨k,hk⟩:=b5 hy;rcases hzg k y hk with ⟨_,h⟩|⟨_,_,h⟩|⟨_,h⟩
    ·exact kJ y (aU h)
    ·exact adX.2 y (aU h)
    ·exact kJ y (aU h)
   have hzp:∀(k:aN) (y:aE CV) (j:aN) (x:CV),zs[k]? =ai y->y[j]? =ai x->uQ x=false:=λk y j x hk hj=>im hp (hzsh y (aU hk)) hj;let c3:gQ:=⟨λm=>if m=dU 500 0 then p' else c1.P m,λm=>if m=dU 500 0 then(λ_ _=>⟨ao,0,0,0,0,0⟩)else c1.G m,c1.K⟩
   have hP3:c3.P (dU 500 0)=p':=by simp[c3]
   have hG3:c3.G (dU 500 0)=λ_ _=>⟨ao,0,0,0,0,0⟩:=by simp[c3]
   have hO:∀m o,n9 [.v aq [.ow e2 ao xs],.v aq [.i .i64 n],.v aq [.sh e2 ys]] ⟨[.v aq [.ow e2 ao zs]],[]⟩ (dj m)=.o o->m=dU 500 0/\o=.row e2 ao zs:=by intro m o ho;have hm:=oe ho (by simp);simp[LB,Lt,vL,ug,Fb,Dh,uv]at hm;exact⟨j9 hm.1,hm.2⟩
   have hX:n9 [.v aq [.ow e2 ao xs],.v aq [.i .i64 n],.v aq [.sh e2 ys]] ⟨[.v aq [.ow e2 ao zs]],[]⟩ (dj (dU 500 0))=.o (.row e2 ao zs):=rfl;have Tn:∀i j,¬gn zs i j:=by rintro i j ⟨y,x,h1,h2,h3⟩;rw[hzp i y j x h1 h2]at h3;cases h3
   have noInnX:∀i j,¬gn xs i j:=by rintro i j ⟨y,x,h1,h2,h3⟩;rw[im hp (kJ y (aU h1)) h2]at h3;cases h3
   have ZW:∀b,fN c3 (dU 500 0) (.row e2 ao zs) b->p'.nil=aq/\b=p'.blk:=by
    rintro b (⟨h1,h2⟩|⟨_,i,j,h,_⟩)
    ·rw[hP3]at h1 h2;exact⟨h1,h2⟩
    ·exact cO h (Tn i j)
   have hOwn1:p.nil=aq->Own (inj [.v aq [.ow e2 ao xs],.v aq [.i .i64 n],.v aq [.sh e2 ys]]) c1 p.blk:=λhn=>⟨_,_,hob,.inl ⟨by rw[hpd];exact hn,by rw[hpd]⟩⟩
   have WJ:p'.nil=aq->p'.blk=w.heap.size\/Own (inj [.v aq [.ow e2 ao xs],.v aq [.i .i64 n],.v aq [.sh e2 ys]]) c1 p'.blk:=λhn=>by
    rcases hI.blk hn with ⟨q1,q2⟩|q
    ·rw[q2];exact .inr (hOwn1 q1)
    ·exact .inl q
   have hKp:∀b,c1.K b->¬(p'.nil=aq/\b=p'.blk):=by
    rintro b hk ⟨hn,rfl⟩;rcases WJ hn with h|h
    ·have:=Ej.lt _ hk;omega
    ·exact Ej.Hk h hk
   have ahv:∀b,b<w.heap.size->¬Own (inj [.v aq [.ow e2 ao xs],.v aq [.i .i64 n],.v aq [.sh e2 ys]]) c1 b->w'.heap[b]? =w.heap[b]? :=by
    intro b hb ZX;refine hI.old b hb (λhn he=> ?_);subst he;rcases WJ hn with h|h
    ·omega
    ·exact ZX h
   refine⟨c3,⟨?_,?_,?_,?_,?_,T.gp.fr Ej.gp (λb hb=>ahv b (Ej.lt b hb) (λho=>Ej.Hk ho hb)) (λ_ h=>h)⟩,⟨hI.os,hI.tape,hI.output,hI.size,λb hb=>hb,?_,?_,λb hb=>.inl hb⟩,?_,?_⟩
   ·intro m o ho;obtain⟨rfl,rfl⟩:=hO m o ho;refine⟨⟨ti,he,by rw[hP3,hI.sz,SJ],hzsh⟩,?_,λ_=>⟨λi j h=>cO h (Tn i j),λi j i' j' h=>cO h (Tn i j)⟩⟩
    rw[hP3];refine⟨by rw[hI.n,Pj.n,hzl],λhn=> ?_,λhn=> ?_⟩
    ·obtain⟨q1,q2,q3⟩:=hI.nil hn;rw[Pj.n]at q2;exact⟨eU (by omega),q1⟩
    ·obtain⟨oL,q1,q2,q3,q4,q5,q6,q7⟩:=hI.mem hn;refine⟨oL,q1,q2,q3,q4,λk y j x hk hj=> ?_⟩
     simp only[if_true];have hnl:=hzp k y j x hk hj;have hjl:j<ti.ks.length:=by rw[<-hzsh y (aU hk),bK];exact(aW.1 hj).1
     have fin:∀u:bS,Sc u x->oL[p'.off+k*p'.sz+j]? =ai u->∃u:bS,oL[p'.off+k*p'.sz+j]? =ai u/\XC T w' (c3.G (dU 500 0)) k j u x:=λu h1 h2=>⟨u,h2,uZ (E:=ofTab T) hnl h1⟩
     have pnil:∀(k:aN) (y:aE CV),xs[k]? =ai y->p.nil=false:=λk y h=>by
      cases hq:p.nil with
      |false=>rfl
      |true=>have hx:=(Pj.nil hq).1;subst hx;cases h
     rw[hI.sz]at fin⊢;rcases hzg k y hk with ⟨r1,r2⟩|⟨r1,r2,r3⟩|⟨r1,r2⟩
     ·obtain⟨u,hu,hsc⟩:=xrel k y j x (pnil k y r2) r2 hj;have hb1:k*p.sz+j<n*p.sz:=by have:=b9 p.sz (show k+1<=n from r1);rw[dv]at this;rw[SJ]at this⊢;omega
      refine fin u hsc ?_;rw[kc];exact q5 _ u hb1 (by rw[<-kc];exact hu)
     ·obtain⟨u,hu,hr⟩:=n3 (k-n) y j x r3 hj;have hb1:(k-n)*p.sz+j<ys.length*p.sz:=by have:=b9 p.sz (show k-n+1<=ys.length by omega);rw[dv]at this;rw[SJ]at this⊢;omega
      refine fin u (pL (E:=ofTab T) hr hnl) ?_;have:=q6 _ hb1;rw[SJ]at this⊢;rw[hu,<-kc,vH]at this;have hmn:n*ti.ks.length<=k*ti.ks.length:=b9 _ r1;rw[<-this];congr 1;omega
     ·obtain⟨u,hu,hsc⟩:=xrel (k-ys.length) y j x (pnil _ y r2) r2 hj;have hkx:k-ys.length<xs.length:=(aW.1 r2).1;have hb1:(k-(n+ys.length))*p.sz+j<(p.n-n)*p.sz:=by have:=b9 p.sz (show k-(n+ys.length)+1<=p.n-n by rw[Pj.n];omega);rw[dv]at this;rw[SJ]at this⊢;omega
      refine fin u hsc ?_;have:=q7 _ u hb1;rw[SJ]at this hu⊢;have m1:(n+ys.length)*ti.ks.length<=k*ti.ks.length:=b9 _ r1;have e1:(k-(n+ys.length))*ti.ks.length=k*ti.ks.length-(n+ys.length)*ti.ks.length:=vH _ _ _;have e2:(k-ys.length)*ti.ks.length=k*ti.ks.length-ys.length*ti.ks.length:=vH _ _ _;have e3:(n+ys.length)*ti.ks.length=n*ti.ks.length+ys.length*ti.ks.length:=dv _ _ _;rw[e1]at this;rw[e2]at hu;have:=this (by rw[<-hu];congr 2;omega);rw[<-this];congr 1;omega
   ·intro m o m' o' b h1 h2 _ _;obtain⟨rfl,_⟩:=hO m o h1;obtain⟨rfl,_⟩:=hO m' o' h2;rfl
   ·intro m o b h1 h2 h3;obtain⟨rfl,rfl⟩:=hO m o h1;exact hKp b h3 (ZW b h2)
   ·intro b hb;exact jV (Ej.lt b hb) hI.size
   ·intro m bs h1;obtain⟨_,h2⟩:=hO m _ h1;cases h2
   ·intro b hb ZX;refine hI.old b hb (λhn he=> ?_);subst he;rcases WJ hn with h|h
    ·omega
    ·exact ZX h
   ·rintro b ⟨m,o,h1,h2⟩;obtain⟨rfl,rfl⟩:=hO m o h1;obtain⟨q1,rfl⟩:=ZW b h2;rcases WJ q1 with h|h
    ·exact .inr (by omega)
    ·exact .inl h
   ·intro m hm;have:m≠dU 500 0:=by rintro rfl;apply hm;rfl
    exact⟨bk this,bk this⟩
   ·show qG T w' c3 aq [.own (dU 500 0)] (kX p');show kX p'=kX (c3.P (dU 500 0));rw[hP3]
 ·cases h
end
end Go.FG.Ins
