/- slices.Insert at elements of plain cells, over any program that bears its text: a call of it does what is told. No condition but those that are stated. -/
import Derived.Test.YtpcfgiocpohbmaaGreatDoorLib
import Derived.Shelf.Bodies2
import Derived.Shelf.RegionOpenPlain
import Derived.WalkKit
import Derived.Lib.Walk
import Derived.Lib.SliceRun
import Derived.Lib.JoinLaws
import Derived.Lib.AppendZeros
import Derived.Lib.Overlaps
import Derived.Laws.Externs
import Derived.Laws.IdiomCopy
import Derived.Lib.AppendZerosOnto
set_option linter.unusedVariables false
set_option linter.unusedSimpArgs false
set_option maxRecDepth 100000
set_option autoImplicit true
set_option relaxedAutoImplicit true
open Array renaming length_toList->dn,getElem?_toList->cR,getElem?_eq_some_iff->dr,append_assoc->Ml,getElem?_append_left->CW,getElem?_eq_none->Ge
open Bool renaming true->ao,false->aq,and_eq_true->aM
open Decidable renaming decide->ah
open Go renaming Program->de,World->cB,Oper->gK,Operand->eQ,Value->bP
open Go.Act renaming eval->Gt,put->S1
open Go.Builtin renaming copy_->gi,append_->gW,firstCells->e7,lenOf->o5,zeroCells->fC
open Go.Extern.SlicesOverlaps renaming overlaps->kq
open Go.IntKind renaming i64->ak,wrap_i64->pG
open Go.Lib renaming wpList_append_run->tv
open Go.Oper renaming wp->Mq
open Go.Region renaming wanted->uy
open Go.Result renaming andThen_ok->bH
open Go.Sem renaming run_bind->cg,run_pure->cU,run->mI
open Go.Value renaming bool->Cg
open Go.World renaming cell?_of_block->uz,shape?->WW,frozen?->WV,cell?->Mr,setRow->iX
open Int renaming toNat_natCast->dG
open List renaming map_toArray->Cw,map_cons->e9,map_nil->uU,length_take->du,length_drop->gz,getElem?_take->dP,getElem?_drop->dO,getElem?_of_mem->bX,getElem?_eq_some_iff->aW,getElem?_eq_getElem->e8,size_toArray->AQ,getElem?_toArray->gP,append_assoc->ca,getElem?_append_left->dj,getElem?_append_right->cY,all_eq_true->bz,getElem_mem->bw,mem_of_getElem?->aU,eq_nil_of_length_eq_zero->eO,length_map->bJ
open Nat renaming min->PJ,le_refl->bT,eq_zero_or_pos->Ci,add_zero->zQ,mul_le_mul_right->b5,add_mul->dc,sub_mul->uA,min_def->Km,add_assoc->jL,zero_add->bV,beq->bK,eq_of_beq_eq_true->aX,div_lt_iff_lt_mul->wX,mod_lt->Ea,div_add_mod->HY,mul_comm->Gv,lt_of_lt_of_le->iB
open Option renaming some->ai,none->aj
open Option.some renaming inj->aJ
open Prod.mk renaming inj->bU
open _root_ renaming Nat->aN,Array->eF,List->aE,if_pos->bm,Option->aA,Int->ay,if_neg->bh,absurd->cJ,Bool->aY,cond_true->aw,decide_eq_true_eq->bf
namespace Go.FG.Ins
open Go Go.Shelf Go.RowKit Go.Lib Go.Proofs
structure L (P:de) (ρ:Ren) (nm:String) (sz:aN):Prop where
 mixed:P.follows .mixedOrders=ao
 f22:P.funcs[ρ.f 22]? =ai {Body2.n22 ρ with name:=nm}
 t3:P.underlying (ρ.t 3)=ai (TypeDesc.int ak)
 a3:∀w,(Go.isAgg (ρ.t 3)).run P w=.ok aq w
 t4:P.underlying (ρ.t 4)=ai (TypeDesc.bool)
 a4:∀w,(Go.isAgg (ρ.t 4)).run P w=.ok aq w
 t24:P.underlying (ρ.t 24)=ai (TypeDesc.slice (ρ.t 9))
 a24:∀w,(Go.isAgg (ρ.t 24)).run P w=.ok aq w
 z9:∀w,(Go.sizeOf (ρ.t 9)).run P w=.ok sz w
variable {P:de} {ρ:Ren} {nm:String} {sz:aN}
theorem wpList_copy(w:cB){ops:eF gK}{rest:aE gK}{o:gK}{a:Act}{Q:Exit->Act->cB->Prop}(hgd:o.guard=aj)(d s:eQ)(t t':TypeId)
  (ho:o.op=.call {callee:=.builtin .copy,args:= #[d,s],argTypes:= #[t,t']}) (v u:bP) (hd:a.eval d=v) (hs:a.eval s=u) {v':bP} {w':cB}
  (hr:(gi #[t,t'] o.type #[v,u]).run P w=.ok v' w') (h:wpList P ops Q rest (a.put o.dst v') w'):wpList P ops Q (o::rest) a w:=
 wpList_plain hgd λ_ hK=>by
  unfold Mq execOp;simp only[ho,resolve,invoke,builtin,cg,cU,bH,Cw,e9,uU,hd,hs,hr];exact hK _ _ h
theorem step_copy{ops:eF gK}{o:gK}{a:Act}{w:cB}{K:Act->cB->Prop}{Q:Exit->Act->cB->Prop}{E:Prop}
  (hg:o.guard=aj) (d x:eQ) (dT sT:TypeId) (hop:o.op=Op.call {callee:=Callee.builtin Builtin.copy,args:= #[d,x],argTypes:= #[dT,sT]})
  (v u:bP) (hd:a.eval d=v) (hx:a.eval x=u) {v':bP} {w':cB} (hr:(gi #[dT,sT] o.type #[v,u]).run P w=.ok v' w') (hK:K (a.put o.dst v') w'):
  if uy o (yielded ops a.tmps)=ao then Mq P o a w K Q else E:=by
 have hw:uy o (yielded ops a.tmps)=true:=by simp[uy,hg]
 rw[bm hw];unfold Mq;simp[execOp,hop,resolve,invoke,builtin,hd,hx,hr,Result.andThen];exact hK
set_option maxHeartbeats 4000000 in
set_option maxRecDepth 100000 in
theorem zero(l:L P ρ nm sz)(w:cB)(A B:aA Addr)(n c i vc:aN)(hi:i<=n)(hn:n<=9223372036854775807)(hA:A=aj/\n=0\/∃b o,A=ai ⟨b,o,aj⟩):
  Calls P (ρ.f 22) #[.slice A n c,.int .i64 i,.slice B 0 vc] w λe w'=>e=.returned (.slice A n c)/\w'=w:=by
 have t3:=l.t3;have a3:=l.a3;have t4:=l.t4;have a4:=l.a4;have t24:=l.t24;have a24:=l.a24;have z9:=l.z9;have u3:=run_underlying l.t3;have u4:=run_underlying l.t4;have u24:=run_underlying l.t24;have hb1:(0:ay)<=(i:ay):=by omega
 have hb2:(i:ay)<=(n:ay):=by omega
 go_enter l.f22,Body2.n22_ntmps ρ;rcases hA with ⟨rfl,rfl⟩|⟨b,o,rfl⟩
 ·obtain rfl:i=0:=by omega
  go_wp2;go_ret;exact⟨rfl,rfl⟩
 ·go_wp2;all_goals (go_ret;exact⟨rfl,rfl⟩)
set_option maxHeartbeats 4000000 in
set_option maxRecDepth 100000 in
theorem atEnd(l:L P ρ nm sz)(w w1:cB)(A B:aA Addr)(n c m vc:aN)(r:bP)(hm:0<m)(hn:n<=9223372036854775807)(hA:A=aj/\n=0\/∃b o,A=ai ⟨b,o,aj⟩)
  (h1:∀ty,(gW #[ρ.t 24,ρ.t 24] ty #[.slice A n c,.slice B m vc]).run P w=.ok r w1):
  Calls P (ρ.f 22) #[.slice A n c,.int .i64 n,.slice B m vc] w λe w'=>e=.returned r/\w'=w1:=by
 have t3:=l.t3;have a3:=l.a3;have t4:=l.t4;have a4:=l.a4;have t24:=l.t24;have a24:=l.a24;have z9:=l.z9;have u3:=run_underlying l.t3;have u4:=run_underlying l.t4;have u24:=run_underlying l.t24;have hz1:¬((m:ay)=0):=by omega
 go_enter l.f22,Body2.n22_ntmps ρ;rcases hA with ⟨rfl,rfl⟩|⟨b,o,rfl⟩
 ·go_wp2_with (at_builtin;refine tv _ rfl _ _ _ _ rfl _ _ rfl rfl _ _ (h1 _) ?_)
  go_ret;exact⟨rfl,rfl⟩
 ·go_wp2_with (at_builtin;refine tv _ rfl _ _ _ _ rfl _ _ rfl rfl _ _ (h1 _) ?_)
  all_goals (go_ret;exact⟨rfl,rfl⟩)
set_option maxHeartbeats 4000000 in
set_option maxRecDepth 100000 in
theorem shift(l:L P ρ nm sz)(w w1 w2:cB)(x1 x2:bP)(b o n c i m vc:aN)(B:aA Addr)(hi:i<n)(hm:0<m)(hroom:n+m<=c)(hc63:c<=9223372036854775807)
  (hov:∀lb cb,(callFunc (ρ.f 29) #[.slice B m vc,.slice (ai ⟨b,o+(i+m)*sz,aj⟩) lb cb]).run P w=.ok (.value (.bool aq)) w)
  (h1:∀ty,(gi #[ρ.t 24,ρ.t 24] ty #[.slice (ai ⟨b,o+(i+m)*sz,aj⟩) (n+m-(i+m)) (c-(i+m)),.slice (ai ⟨b,o+i*sz,aj⟩) (n+m-i) (c-i)]).run P w.drew=.ok x1 w1)
  (h2:∀ty,(gi #[ρ.t 24,ρ.t 24] ty #[.slice (ai ⟨b,o+i*sz,aj⟩) (n+m-i) (c-i),.slice B m vc]).run P w1=.ok x2 w2):
  Calls P (ρ.f 22) #[.slice (ai ⟨b,o,aj⟩) n c,.int .i64 i,.slice B m vc] w λe w'=>e=.returned (.slice (ai ⟨b,o,aj⟩) (n+m) c)/\w'=w2:=by
 have t3:=l.t3;have a3:=l.a3;have t4:=l.t4;have a4:=l.a4;have t24:=l.t24;have a24:=l.a24;have z9:=l.z9;have u3:=run_underlying l.t3;have u4:=run_underlying l.t4;have u24:=run_underlying l.t24;have hz1:¬((m:ay)=0):=by omega
 have hz2:¬((i:ay)=(n:ay)):=by omega
 have mixed:=l.mixed;have hw1:ak.wrap ((i:ay)+(m:ay))=(i:ay)+(m:ay):=by rw[pG];omega
 have hb1:(0:ay)<=(i:ay)+(m:ay):=by omega
 have hin:i<=n:=by omega
 have htn:((i:ay)+(m:ay)).toNat=i+m:=by omega
 have hb2:¬(c=i+m):=by omega
 have hb3:(i:ay)<=(n:ay)+(m:ay):=by omega
 have hb4:¬(c=i):=by omega
 go_enter l.f22,Body2.n22_ntmps ρ;go_wp2_with (simp only[hov])
 go_region_law_o (refine step_copy rfl _ _ (ρ.t 24) (ρ.t 24) rfl _ _ (by simp[Gt,S1]) (by simp[Gt,S1]) (h1 _) ?_);go_wp2_with (at_builtin;refine wpList_copy _ rfl _ _ (ρ.t 24) (ρ.t 24) rfl _ _ rfl rfl (h2 _) ?_)
 go_ret;exact⟨rfl,rfl⟩
set_option maxHeartbeats 4000000 in
set_option maxRecDepth 100000 in
theorem grow(l:L P ρ nm sz)(w w1 w2 w3:cB)(x2 x3:bP)(b o b' n c c' i m vc:aN)(B:aA Addr)(hi:i<n)(hm:0<m)(hnc:n<=c)(hroom:c<n+m)(amW:n+m<=9223372036854775807)(hc':n+m<=c')(hc63:c'<=9223372036854775807)
  (h1:∀ty,(gW #[ρ.t 24,ρ.t 3] ty #[.slice (ai ⟨b,o,aj⟩) i c,.int .i64 ((n:ay)+(m:ay)-(i:ay))]).run P w=.ok (.slice (ai ⟨b',0,aj⟩) (n+m) c') w1)
  (h2:∀ty,(gi #[ρ.t 24,ρ.t 24] ty #[.slice (ai ⟨b',i*sz,aj⟩) (n+m-i) (c'-i),.slice B m vc]).run P w1=.ok x2 w2)
  (h3:∀ty,(gi #[ρ.t 24,ρ.t 24] ty #[.slice (ai ⟨b',(i+m)*sz,aj⟩) (n+m-(i+m)) (c'-(i+m)),.slice (ai ⟨b,o+i*sz,aj⟩) (n-i) (c-i)]).run P w2.drew=.ok x3 w3):
  Calls P (ρ.f 22) #[.slice (ai ⟨b,o,aj⟩) n c,.int .i64 i,.slice B m vc] w λe w'=>e=.returned (.slice (ai ⟨b',0,aj⟩) (n+m) c')/\w'=w3:=by
 have t3:=l.t3;have a3:=l.a3;have t4:=l.t4;have a4:=l.a4;have t24:=l.t24;have a24:=l.a24;have z9:=l.z9;have u3:=run_underlying l.t3;have u4:=run_underlying l.t4;have u24:=run_underlying l.t24;have hz1:¬((m:ay)=0):=by omega
 have hz2:¬((i:ay)=(n:ay)):=by omega
 have hz3:(c:ay)<(n:ay)+(m:ay):=by omega
 have mixed:=l.mixed;have hw0:ak.wrap ((n:ay)+(m:ay))=(n:ay)+(m:ay):=by rw[pG];omega
 have hw2:ak.wrap ((n:ay)+(m:ay)-(i:ay))=(n:ay)+(m:ay)-(i:ay):=by rw[pG];omega
 have hw1:ak.wrap ((i:ay)+(m:ay))=(i:ay)+(m:ay):=by rw[pG];omega
 have hb1:(0:ay)<=(i:ay)+(m:ay):=by omega
 have hin:i<=n:=by omega
 have htn:((i:ay)+(m:ay)).toNat=i+m:=by omega
 have hGi:¬(c'=i):=by omega
 have hGim:¬(c'=i+m):=by omega
 have hci:¬(c=i):=by omega
 have hic:i<=c:=by omega
 have hb3:(i:ay)<=(n:ay):=by omega
 have hb4:(i:ay)<=(n:ay)+(m:ay):=by omega
 go_enter l.f22,Body2.n22_ntmps ρ
 go_wp2_with (first
  |(at_builtin;refine tv _ rfl _ _ _ _ rfl _ _ rfl rfl _ _ (h1 _) ?_)
  |(at_builtin;refine wpList_copy _ rfl _ _ (ρ.t 24) (ρ.t 24) rfl _ _ rfl rfl (h2 _) ?_))
 go_region_law_o (refine step_copy rfl _ _ (ρ.t 24) (ρ.t 24) rfl (.slice (ai ⟨b',(i+m)*sz,aj⟩) (n+m-(i+m)) (c'-(i+m))) (.slice (ai ⟨b,o+i*sz,aj⟩) (n-i) (c-i)) (by simp[Gt,S1]) (by simp[Gt,S1]) (h3 (ρ.t 3)) ?_);go_wp2;go_ret;exact⟨rfl,rfl⟩
end Go.FG.Ins
namespace Go.FG.Ins
open Go Go.Shelf Go.RowKit Go.Lib Go.Proofs
section
variable {P:de}
theorem run_copyG(hu:P.underlying dT=ai (.slice elem))(hs:∀w,(sizeOf elem).run P w=.ok sz w)
  (hf:(e7 sz m (.slice B sLen sCap)).run P w=.ok cs.toArray w) (hm:PJ sLen dLen=m) (hb:nb w b cur) (hl:o+cs.length<=cur.size) (h1:∀v∈cs,v.oneCell'=ao):
  (gi #[dT,sT] ty #[.slice (ai (ad b o)) dLen dCap,.slice B sLen sCap]).run P w=.ok (goInt m) (w.setRow b (dN cur o cs)):=by have hst:=mZ (P:=P) w hb hl h1;have hm':min sLen dLen=m:=hm;simp[gi,run_underlying hu,o5,hs,hm',hf,hst]
theorem blk_drew(h:nb w b cur):nb w.drew b cur:=h
theorem cell_setRow_other{w:cB}{b b2 o:aN}{new:eF bP}(h:b2≠b):(w.setRow b new).cell? (ad b2 o)=w.cell? (ad b2 o):=uz (setRow_other w b b2 _ h)
structure Insd (w w':cB) (p p':Pl) (i m:aN) (news:aE bP):Prop where
 n:p'.n=p.n+m
 sz:p'.sz=p.sz
 nil:p'.nil=ao->p'.cap=0/\p.n=0/\m=0
 mem:p'.nil=aq->∃nU,nb w' p'.blk nU/\p'.n<=p'.cap/\p'.cap<=maxLen/\p'.off+p'.cap*p'.sz<=nU.size/\
  (∀k u,k<i*p.sz->w.cell? (ad p.blk (p.off+k))=ai u->nU[p'.off+k]? =ai u)/\(∀k,k<m*p.sz->nU[p'.off+i*p.sz+k]? =news[k]?)/\
  (∀k u,k<(p.n-i)*p.sz->w.cell? (ad p.blk (p.off+i*p.sz+k))=ai u->nU[p'.off+(i+m)*p.sz+k]? =ai u)
 blk:p'.nil=aq->(p.nil=aq/\p'.blk=p.blk)\/p'.blk=w.heap.size
 old:∀b,b<w.heap.size->(p'.nil=aq->b≠p'.blk)->w'.heap[b]? =w.heap[b]?
 size:w.heap.size<=w'.heap.size
 os:w'.os=w.os
 tape:w'.tape=w.tape
 output:w'.output=w.output
structure Pre (w:cB) (p:Pl):Prop where
 nil:p.nil=ao->p.n=0/\p.cap=0
 mem:p.nil=aq->∃gv,nb w p.blk gv/\p.n<=p.cap/\p.cap<=maxLen/\p.off+p.cap*p.sz<=gv.size
variable {ρ:Ren} {nm:String}
theorem overlaps_false(ht:P.underlying tS=ai (.slice e))(hz:∀w,(Go.sizeOf e).run P w=.ok size w)(hb:nb w b gv)(ho:o<gv.size)
  (hB:∀a,B=ai a->0<m->a.block≠b/\∃t k,w.shape? a.block=ai (t,k+1)) (lb cb:aN):
  (kq #[tS,tS] #[tR] #[.slice B m vc,.slice (ai (ad b o)) lb cb]).run P w=.ok (.bool aq) w:=by
 obtain⟨t,fr,hg,hfr⟩:=hb;have hsb:w.shape? b=ai (t,gv.size):=by simp[WW,hg]
 have f1:w.frozen? ⟨b,o,aj⟩=false:=by have:=hfr o (by omega);simpa [WV,hg]using this
 have f2:w.frozen? ⟨b,gv.size,aj⟩=false:=by have:=hfr gv.size (bT _);simpa [WV,hg]using this
 have hne0:gv.size≠0:=by omega
 change mI P (α:=bP) (do
  let ai t:=(#[tS,tS]:eF TypeId)[0]? |stuck "slices.overlaps: no parameter types"
  let .slice elem<-underlying t|stuck "slices.overlaps: slice type expected"
  let size<-sizeOf elem
  match B,(ai (ad b o):aA Addr)with
  |some a,ai b=>
   if m=0\/lb=0\/size=0 then pure (Cg aq)
   else if a.block !=b.block&&(<-frozen a)&&(<-frozen b)then unsupported .addressObserved
   else do
    if a.block !=b.block then do
     noView a;noView b
     if<-mayBeOne a b then return Cg ((<-choose (.extern "sameAddr.stringBytes" 2))==1)
    pure (Cg (a.block==b.block&&a.off<b.off+lb*size&&b.off<a.off+m*size))
  |_,_=>pure (Cg aq)) w=_
 cases B with
 |none=>simp[run_underlying ht,hz]
 |some a=>
  by_cases h0:m=0\/lb=0\/size=0
  ·simp[run_underlying ht,hz,h0]
  ·have hm:0<m:=by omega
   obtain⟨hne,ta,k,hsa⟩:=hB a rfl hm;have XE:(a.block !=b)=true:=by simpa using hne
   have hnb':(a.block==b)=false:=by simpa using hne
   obtain⟨n,hn⟩:∃n,gv.size=n+1:=⟨gv.size-1,by omega⟩
   rw[hn]at hsb f2;simp[run_underlying ht,hz,h0,XE,hnb',hne,frozen,noView,viewAt,mayBeOne,stringish,shape,mI,hsa,hsb,f1,f2]
theorem first_of{w:cB}{sz m b o len cap:aN}{cs:aE bP}(hl:cs.length=m*sz)(h:∀j u,cs[j]? =ai u->w.cell? (ad b (o+j))=ai u):(e7 sz m (.slice (ai (ad b o)) len cap)).run P w=.ok cs.toArray w:=
 run_firstCells_some w sz m _ _ _ cs hl (λj v hj=>by rw[Addr.mL];exact h j v hj)
theorem insert_run{sz:aN}(l:L P ρ nm sz){inf:TypeInfo}{z:bP}(hi:P.info? (ρ.t 9)=ai inf)(hz:inf.zero=ai z)(hzs:z.cells.size=sz)(hsz:inf.size=sz)(MX:0<sz)
  (hov:∀args w,(callFunc (ρ.f 29) args).run P w=((kq #[ρ.t 24,ρ.t 24] #[ρ.t 4] args).run P w).andThen λv w'=>.ok (.value v) w')
  {w:cB} {p:Pl} (hp:p.sz=sz) (pre:Pre w p) {i m vc:aN} {B:aA Addr} {news:aE bP} (hin:i<=p.n) (hv:news.length=m*sz) (hB:m=0\/∃b2 o2,B=ai (ad b2 o2)/\(p.nil=aq->b2≠p.blk)/\∀j u,news[j]? =ai u->w.cell? (ad b2 (o2+j))=ai u)
  (Qo:∀v∈news,v.oneCell'=ao) (h1:(p.n+m)*inf.bytes<=140737488355328) (h2:p.n+m<=9223372036854775807) (hone2:∀gv k v,p.nil=aq->nb w p.blk gv->k<p.n*sz->gv[p.off+k]? =ai v->v.oneCell'=ao):
  ∃p' w',Insd w w' p p' i m news/\Calls P (ρ.f 22) #[j5 p,.int .i64 i,.slice B m vc] w (λe w2=>e=.returned (j5 p')/\w2=w'):=by
 subst hp;have hnm:p.n<=9223372036854775807:=by omega
 rcases Ci m with rfl|hm
 ·refine⟨p,w,⟨rfl,rfl,λh=>⟨(pre.nil h).2,(pre.nil h).1,rfl⟩,λh=> ?_,λh=>.inl ⟨h,rfl⟩,λ_ _ _=>rfl,bT _,rfl,rfl,rfl⟩,?_⟩
  ·obtain⟨gv,hb,q1,q2,q3⟩:=pre.mem h;refine⟨gv,hb,q1,q2,q3,λk u _ hu=>by rw[<-hb.cell];exact hu,λk hk=>by simp at hk,λk u _ hu=> ?_⟩
   rw[<-hb.cell,zQ];exact hu
  ·cases hq:p.nil with
   |true=>have h0:=(pre.nil hq).1;rw[mo hq];have:=zero l w aj B 0 0 i vc (by omega) (by omega) (.inl ⟨rfl,rfl⟩);exact this
   |false=>rw[eB hq];exact zero l w _ B p.n p.cap i vc hin hnm (.inr ⟨_,_,rfl⟩)
 ·obtain⟨b2,o2,rfl,hb2,hcell⟩:=hB.resolve_left (by omega);by_cases hend:i=p.n
  ·subst hend;have happ:App P w (ρ.t 24) (.slice (ai (ad b2 o2)) m vc) z.cells p.sz m news:=by refine⟨.inl ⟨.inl ⟨_,l.t24⟩,by simp[o5],first_of hv hcell,first_of (w:=w.drew) hv hcell⟩,hv,Qo⟩
   obtain⟨p',w',hr,hA⟩:=s9 (P:=P) (w:=w) (t:=ρ.t 24) (u:=ρ.t 24) (ty:=0) (p:=p) l.t24 hi hz hzs hsz (λh=>(pre.nil h).1) pre.mem happ h1 h2;refine⟨p',w',⟨hA.n,hA.sz,hA.nil,λh=> ?_,hA.blk,hA.old,hA.size,hA.os,hA.tape,hA.output⟩,?_⟩
   ·obtain⟨nU,q1,q2,q3,q4,q5,q6⟩:=hA.mem h;exact⟨nU,q1,q2,q3,q4,q5,q6,λk u hk _=>by simp at hk⟩
   ·have hr':∀ty,(gW #[ρ.t 24,ρ.t 24] ty #[j5 p,.slice (ai (ad b2 o2)) m vc]).run P w=.ok (j5 p') w':=λty=>hr;cases hq:p.nil with
    |true=>have h0:=(pre.nil hq).1;rw[mo hq]at hr'⊢;have:=atEnd l w w' aj (ai (ad b2 o2)) 0 0 m vc (j5 p') hm (by omega) (.inl ⟨rfl,rfl⟩) hr';rw[h0];exact this
    |false=>rw[eB hq]at hr'⊢;exact atEnd l w w' _ (ai (ad b2 o2)) p.n p.cap m vc (j5 p') hm hnm (.inr ⟨_,_,rfl⟩) hr'
  ·have hlt:i<p.n:=by omega
   have hq:p.nil=false:=by
    cases h:p.nil with
    |false=>rfl
    |true=>have:=(pre.nil h).1;omega
   obtain⟨gv,hb,hnc,hcm,ajQ⟩:=pre.mem hq;have hne:=hb2 hq;rw[eB hq];have m1:i*p.sz<=p.n*p.sz:=b5 _ hin;have m2:p.n*p.sz<=p.cap*p.sz:=b5 _ hnc;have e1:(i+m)*p.sz=i*p.sz+m*p.sz:=dc _ _ _;have e2:(p.n-i)*p.sz=p.n*p.sz-i*p.sz:=uA _ _ _;have m0:i*p.sz+p.sz<=p.n*p.sz:=by have:=b5 p.sz (show i+1<=p.n by omega);rwa[dc,Nat.one_mul]at this
   have hp0:p.sz<=m*p.sz:=Nat.le_mul_of_pos_left _ hm;have n1:PJ (p.n+m-i) (p.n+m-(i+m))=p.n-i:=by simp only[Km];split<;>omega
   have n2:PJ m (p.n+m-i)=m:=by simp only[Km];split<;>omega
   have n3:PJ (p.n-i) (p.n+m-(i+m))=p.n-i:=by simp only[Km];split<;>omega
   let tail:=(gv.toList.drop (p.off+i*p.sz)).take ((p.n-i)*p.sz);have htl:tail.length=(p.n-i)*p.sz:=by simp only[tail,du,gz,dn];omega
   have htg:∀k,k<(p.n-i)*p.sz->tail[k]? =gv[p.off+i*p.sz+k]? :=λk hk=>by simp only[tail,dP,bm hk,dO,cR]
   have ht1:∀v∈tail,v.oneCell'=true:=λv hv=>by
    obtain⟨k,hk⟩:=bX hv;have hkl:k<(p.n-i)*p.sz:=by rw[<-htl];exact(aW.1 hk).1
    rw[htg k hkl]at hk;exact hone2 gv (i*p.sz+k) v hq hb (by omega) (by rw[<-jL];exact hk)
   by_cases hroom:p.n+m<=p.cap
   ·-- in place
    have m3:(p.n+m)*p.sz<=p.cap*p.sz:=b5 _ hroom;rw[dc]at m3;have MT:p.off+(i+m)*p.sz+tail.length<=gv.size:=by rw[htl];omega
    have hb1:nb (w.drew.setRow p.blk (dN gv (p.off+(i+m)*p.sz) tail)) p.blk (dN gv (p.off+(i+m)*p.sz) tail):=nb.setRow (w:=w.drew) (blk_drew hb) (eM MT);have MU:p.off+i*p.sz+news.length<=(dN gv (p.off+(i+m)*p.sz) tail).size:=by rw[eM MT,hv];omega
    have c1:∀ty,(gi #[ρ.t 24,ρ.t 24] ty #[.slice (ai ⟨p.blk,p.off+(i+m)*p.sz,aj⟩) (p.n+m-(i+m)) (p.cap-(i+m)),.slice (ai ⟨p.blk,p.off+i*p.sz,aj⟩) (p.n+m-i) (p.cap-i)]).run P w.drew=.ok (goInt ((p.n-i:aN):ay)) (w.drew.setRow p.blk (dN gv (p.off+(i+m)*p.sz) tail)):=λty=>
     run_copyG (P:=P) (w:=w.drew) l.t24 l.z9 (first_of (w:=w.drew) htl (λj u hj=>by
      have hjl:j<(p.n-i)*p.sz:=by rw[<-htl];exact(aW.1 hj).1
      rw[htg j hjl]at hj;exact(hb.cell _).trans hj)) n1 (blk_drew hb) MT ht1
    have c2:∀ty,(gi #[ρ.t 24,ρ.t 24] ty #[.slice (ai ⟨p.blk,p.off+i*p.sz,aj⟩) (p.n+m-i) (p.cap-i),.slice (ai (ad b2 o2)) m vc]).run P (w.drew.setRow p.blk (dN gv (p.off+(i+m)*p.sz) tail))=.ok (goInt m) ((w.drew.setRow p.blk (dN gv (p.off+(i+m)*p.sz) tail)).setRow p.blk (dN (dN gv (p.off+(i+m)*p.sz) tail) (p.off+i*p.sz) news)):=λty=>
     run_copyG (P:=P) l.t24 l.z9 (first_of hv (λj u hj=>by rw[cell_setRow_other hne];exact hcell j u hj)) n2 hb1 MU Qo
    have hcal:=shift l w _ _ _ _ p.blk p.off p.n p.cap i m vc (ai (ad b2 o2)) hlt hm hroom hcm (λlb cb=>by
     rw[hov,overlaps_false (P:=P) (w:=w) l.t24 l.z9 hb (o:=p.off+(i+m)*p.sz) (by omega) (λa ha _=>by
      cases ha;have h0:0<news.length:=by rw[hv];omega
      have:=hcell 0 _ (e8 h0);refine⟨hne,?_⟩
      unfold Mr at this;unfold WW;split at this
      ·rename_i cc tt ff hg;rw[hg];simp at this;obtain⟨hlt2,_⟩:=dr.1 this;exact⟨tt,cc.size-1,by simp;omega⟩
      ·cases this) lb cb]
     rfl) c1 c2
    refine⟨⟨aq,p.blk,p.off,p.cap,p.n+m,p.sz⟩,(w.drew.setRow p.blk (dN gv (p.off+(i+m)*p.sz) tail)).setRow p.blk (dN (dN gv (p.off+(i+m)*p.sz) tail) (p.off+i*p.sz) news),⟨rfl,rfl,λh=>(by cases h),λ_=> ?_,λ_=>.inl ⟨hq,rfl⟩,λb hb' XE=> ?_,by simp[iX],rfl,rfl,rfl⟩,by rw[eB rfl];exact hcal⟩
    ·refine⟨_,hb1.setRow (eM MU),hroom,hcm,by rw[eM MU,eM MT];exact ajQ,λk u hk hu=> ?_,λk hk=> ?_,λk u hk hu=> ?_⟩
     ·show(dN (dN gv (p.off+(i+m)*p.sz) tail) (p.off+i*p.sz) news)[p.off+k]? =ai u;rw[gb MU,bh (by omega),gb MT,bh (by omega),<-hb.cell];exact hu
     ·show(dN (dN gv (p.off+(i+m)*p.sz) tail) (p.off+i*p.sz) news)[p.off+i*p.sz+k]? =news[k]?;rw[gb MU,bm (by rw[hv];omega)];congr 1;omega
     ·show(dN (dN gv (p.off+(i+m)*p.sz) tail) (p.off+i*p.sz) news)[p.off+(i+m)*p.sz+k]? =ai u;rw[gb MU,bh (by rw[hv];omega),gb MT,bm (by rw[htl];omega),show p.off+(i+m)*p.sz+k-(p.off+(i+m)*p.sz)=k by omega,htg k hk,<-hb.cell];exact hu
    ·have hbne:b≠p.blk:=XE rfl;rw[setRow_other _ _ b _ hbne,setRow_other _ _ b _ hbne];rfl
   ·-- a new row
    have hgo:p.cap<p.n+m:=by omega
    let Jm:=(gv.toList.drop p.off).take (i*p.sz);have hol:Jm.length=i*p.sz:=by simp only[Jm,du,gz,dn];omega
    have hog:∀k,k<i*p.sz->Jm[k]? =gv[p.off+k]? :=λk hk=>by simp only[Jm,dP,bm hk,dO,cR]
    have hik:i+(p.n+m-i)=p.n+m:=by omega
    have hkk:(p.n:ay)+(m:ay)-(i:ay)=((p.n+m-i:aN):ay):=by omega
    have hold:(e7 inf.size i (.slice (ai (ad p.blk p.off)) i p.cap)).run P w.drew=.ok Jm.toArray w.drew:=by
     rw[hsz];exact first_of (w:=w.drew) hol (λj u hj=>by
      have hjl:j<i*p.sz:=by rw[<-hol];exact(aW.1 hj).1
      rw[hog j hjl]at hj;exact(hb.cell _).trans hj)
    have hG:=grownCap_ge w (p.n+m) p.cap (ρ.t 9);have hG2:=grownCap_le_maxLen w (p.n+m) p.cap (ρ.t 9) (by unfold maxLen;omega);generalize hGd:grownCap w (p.n+m) p.cap (ρ.t 9)=G at hG hG2;obtain⟨arr,harr⟩:∃arr:eF bP,arr=Jm.toArray++fC z.cells (p.n+m-i)++fC z.cells (G-(p.n+m)):=⟨_,rfl⟩
    have a1:∀ty,(gW #[ρ.t 24,ρ.t 3] ty #[.slice (ai ⟨p.blk,p.off,aj⟩) i p.cap,.int .i64 ((p.n:ay)+(m:ay)-(i:ay))]).run P w=.ok (.slice (ai ⟨w.heap.size,0,aj⟩) (p.n+m) G) (w.drew.alloc (.cells arr (ρ.t 9))):=λty=>by have hmb:(p.n+m-i)*inf.bytes<=(p.n+m)*inf.bytes:=b5 _ (by omega);have h:=Lib.run_append_grow_zeros w (ρ.t 24) (ρ.t 3) ty (ρ.t 9) inf z .i64 .i64 l.t24 l.t3 hi hz (ai (ad p.blk p.off)) i p.cap Jm hold (p.n+m-i) (by omega) (by omega) (by omega) (by omega) (by omega) (by rw[hik];exact growslice_fits hgo h1);rw[hik,hGd,<-harr]at h;rw[hkk];exact h
    have sarr:arr.size=i*p.sz+(p.n+m-i)*p.sz+(G-(p.n+m))*p.sz:=by rw[harr];simp only[Array.size_append,AQ,size_zeroCells,hzs,hol]
    have e3:(p.n+m-i)*p.sz=p.n*p.sz+m*p.sz-i*p.sz:=by rw[uA,dc]
    have e4:G*p.sz=(p.n*p.sz+m*p.sz)+(G-(p.n+m))*p.sz:=by rw[<-dc,<-dc];congr 1;omega
    have hbw:p.blk<w.heap.size:=hb.lt;have hb0:nb (w.drew.alloc (.cells arr (ρ.t 9))) w.heap.size arr:=nb.alloc w.drew arr _;have MT:i*p.sz+news.length<=arr.size:=by rw[sarr,hv];omega
    have hb1:=hb0.setRow (new:=dN arr (i*p.sz) news) (eM MT);have MU:(i+m)*p.sz+tail.length<=(dN arr (i*p.sz) news).size:=by rw[eM MT,sarr,htl];omega
    have hb2w:b2<w.heap.size:=by
     have h0:0<news.length:=by rw[hv];omega
     exact block_lt_of_cell (hcell 0 _ (e8 h0))
    have oldc:∀b o,b<w.heap.size->(w.drew.alloc (.cells arr (ρ.t 9))).cell? (ad b o)=w.cell? (ad b o):=λb o hbl=>uz (heap_alloc_old w.drew _ hbl);have c1:∀ty,(gi #[ρ.t 24,ρ.t 24] ty #[.slice (ai ⟨w.heap.size,i*p.sz,aj⟩) (p.n+m-i) (G-i),.slice (ai (ad b2 o2)) m vc]).run P (w.drew.alloc (.cells arr (ρ.t 9)))=.ok (goInt m) ((w.drew.alloc (.cells arr (ρ.t 9))).setRow w.heap.size (dN arr (i*p.sz) news)):=λty=>
     run_copyG (P:=P) l.t24 l.z9 (first_of hv (λj u hj=>by rw[oldc _ _ hb2w];exact hcell j u hj)) n2 hb0 MT Qo
    have c2:∀ty,(gi #[ρ.t 24,ρ.t 24] ty #[.slice (ai ⟨w.heap.size,(i+m)*p.sz,aj⟩) (p.n+m-(i+m)) (G-(i+m)),.slice (ai ⟨p.blk,p.off+i*p.sz,aj⟩) (p.n-i) (p.cap-i)]).run P ((w.drew.alloc (.cells arr (ρ.t 9))).setRow w.heap.size (dN arr (i*p.sz) news)).drew=.ok (goInt ((p.n-i:aN):ay)) (((w.drew.alloc (.cells arr (ρ.t 9))).setRow w.heap.size (dN arr (i*p.sz) news)).drew.setRow w.heap.size (dN (dN arr (i*p.sz) news) ((i+m)*p.sz) tail)):=λty=>
     run_copyG (P:=P) (w:=((w.drew.alloc (.cells arr (ρ.t 9))).setRow w.heap.size (dN arr (i*p.sz) news)).drew) l.t24 l.z9 (first_of htl (λj u hj=>by
      have hjl:j<(p.n-i)*p.sz:=by rw[<-htl];exact(aW.1 hj).1
      rw[htg j hjl]at hj;show((w.drew.alloc (.cells arr (ρ.t 9))).setRow w.heap.size (dN arr (i*p.sz) news)).cell? (ad p.blk (p.off+i*p.sz+j))=ai u;rw[cell_setRow_other (by omega),oldc _ _ hbw];exact(hb.cell _).trans hj)) n3 (blk_drew hb1) MU ht1
    have hcal:=grow l w _ _ _ _ _ p.blk p.off w.heap.size p.n p.cap G i m vc (ai (ad b2 o2)) hlt hm hnc hgo h2 hG hG2 a1 c1 c2;refine⟨⟨aq,w.heap.size,0,G,p.n+m,p.sz⟩,((w.drew.alloc (.cells arr (ρ.t 9))).setRow w.heap.size (dN arr (i*p.sz) news)).drew.setRow w.heap.size (dN (dN arr (i*p.sz) news) ((i+m)*p.sz) tail),⟨rfl,rfl,λh=>(by cases h),λ_=> ?_,λ_=>.inr rfl,λb hb' XE=> ?_,by simp[iX],rfl,rfl,rfl⟩,by rw[eB rfl];exact hcal⟩
    ·refine⟨_,nb.setRow (w:=((w.drew.alloc (.cells arr (ρ.t 9))).setRow w.heap.size (dN arr (i*p.sz) news)).drew) (blk_drew hb1) (eM MU),hG,hG2,by rw[eM MU,eM MT,sarr];show 0+G*p.sz<=_;omega,λk u hk hu=> ?_,λk hk=> ?_,λk u hk hu=> ?_⟩
     ·show(dN (dN arr (i*p.sz) news) ((i+m)*p.sz) tail)[0+k]? =ai u;rw[bV,gb MU,bh (by omega),gb MT,bh (by omega),harr,Ml,CW (by simp[hol];omega),gP,hog k hk,<-hb.cell];exact hu
     ·show(dN (dN arr (i*p.sz) news) ((i+m)*p.sz) tail)[0+i*p.sz+k]? =news[k]?;rw[bV,gb MU,bh (by omega),gb MT,bm (by rw[hv];omega)];congr 1;omega
     ·show(dN (dN arr (i*p.sz) news) ((i+m)*p.sz) tail)[0+(i+m)*p.sz+k]? =ai u;rw[bV,gb MU,bm (by rw[htl];omega),show(i+m)*p.sz+k-(i+m)*p.sz=k by omega,htg k hk,<-hb.cell];exact hu
    ·have hbne:b≠w.heap.size:=by omega
     rw[setRow_other _ _ b _ hbne];show((w.drew.alloc (.cells arr (ρ.t 9))).setRow w.heap.size (dN arr (i*p.sz) news)).heap[b]? =_;rw[setRow_other _ _ b _ hbne,heap_alloc_old w.drew _ hb'];rfl
end
end Go.FG.Ins
namespace Go.FG.Ins
open Go Go.Shelf Go.RowKit Go.Lib Go.Proofs
abbrev ofTab(T:Tab):fW:={toTab:=T,call:=λ_ _=>aj,om:=λ_ _=>.nat,mode:=λ_ _=>aq,keep:=λ_=>[],tk:=λ_=>false}
theorem holdsK(h:Holds T w K v (.l e ys))(h0:ys≠[])(hv:v=.slice (ai (ad b o)) n c):K b:=by
 cases h with
 |nl=>exact cJ rfl h0
 |l e xs b' o' c' ti' U ht hc hm hK hs hcell hin=>cases hv;exact hK
def wm(e bytes:aN):aE gg->aA (aY×iQ)
 |[.v aq [.ow e1 ao xs],.v aq [.i .i64 i],.v aq [.sh e2 ys]]=>bif bK e1 e&&bK e2 e then
  ai (ah (0<=i)&&ah (i<=(xs.length:ay))&&b8 (xs.length+ys.length) bytes,⟨[.v aq [.ow e ao (Pu.sR xs i.toNat ys)]],[]⟩)else aj
 |_=>aj
theorem insR_get(h:i<=xs.length)(k:aN)(y:aE CV)(hk:(Pu.sR xs i ys)[k]? =ai y):
  (k<i/\xs[k]? =ai y)\/(i<=k/\k<i+ys.length/\ys[k-i]? =ai y)\/(i+ys.length<=k/\xs[k-ys.length]? =ai y):=by
 unfold Pu.sR at hk;have hl:(xs.take i).length=i:=by simp;omega
 by_cases h1:k<i
 ·rw[ca,dj (by omega),dP,bm h1]at hk;exact .inl ⟨h1,hk⟩
 ·by_cases h2:k<i+ys.length
  ·rw[ca,cY (by omega),hl,dj (by omega)]at hk;exact .inr (.inl ⟨by omega,h2,hk⟩)
  ·rw[cY (by simp;omega),dO]at hk;refine .inr (.inr ⟨by omega,?_⟩);rw[<-hk];congr 1;simp;omega
theorem jT(h:P.underlying t=ai d)(hb:rh d=ao)(w:cB):(Go.isAgg t).run P w=.ok aq w:=by simp only[Go.isAgg,cg,run_underlying h,bH];cases d<;>simp_all [rh]
theorem Ar(hE:dY P T)(h:T.ty t=ai ti)(w:cB):(sizeOf t).run P w=.ok ti.ks.length w:=by obtain⟨inf,hi,hs,_⟩:=hE.info t ti h;simp only[sizeOf,typeInfo,program,cg,mI,bH,hi,hs,cU]
section
variable {P:de} {ρ:Ren} {nm:String} {T:Tab}
theorem yw(he:T.ty e=ai te)(hρ:ρ.t 9=e)(hp:plain te.ks=ao)(hE:dY P T)(l:L P ρ nm te.ks.length)
  (hov:∀args w,(callFunc (ρ.f 29) args).run P w=((kq #[ρ.t 24,ρ.t 24] #[ρ.t 4] args).run P w).andThen λv w'=>.ok (.value v) w')
  (hfn:∃fn,P.funcs[ρ.f 22]? =ai fn/\fn.body.isSome=ao/\(fn.name== "runtime.NumGoroutine")=aq):kT P T (ρ.f 22) (wm e te.bytes):=by
 have hno:Jk te.ks=true:=bz.2 λk hk=>by have:=bz.1 hp k hk;cases k<;>simp_all
 obtain⟨inf,hi,hsz,hby,MX,hzz⟩:=hE.info e te he;obtain⟨z,hz,hzc,_⟩:=hzz hno;have hzs:z.cells.size=te.ks.length:=by rw[hzc];simp
 intro args r h w c1 vs CM hs hv;refine⟨hfn,?_⟩
 unfold wm at h;split at h
 ·rename_i e1 xs i e2 ys;cases hb:(bK e1 e&&bK e2 e)with
  |false=>rw[hb]at h;cases h
  |true=>
   rw[hb,aw]at h;simp only[aM]at hb;have:=aX hb.1;subst this;have:=aX hb.2;subst this;have h:=aJ h;obtain⟨hc,rfl⟩:=bU h;simp only[aM,bf,b8]at hc;obtain⟨⟨c0,c2⟩,c3,c4⟩:=hc;obtain⟨v0,g0,s0⟩:=hv 0 _ rfl;obtain⟨v1,g1,s1⟩:=hv 1 _ rfl;obtain⟨v2,g2,s2⟩:=hv 2 _ rfl;have hvs:vs= #[v0,v1,v2]:=by
    have h3:vs.size=3:=hs;apply Array.ext_getElem?;intro k;match k with
    |0=>rw[g0];rfl
    |1=>rw[g1];rfl
    |2=>rw[g2];rfl
    |k+3=>rw[Ge (by omega),Ge (by simp)]
   subst hvs;have s0:v0=j5 (c1.P (dF 0 0)):=s0;have s1:v1=.int .i64 i:=s1;have s2:Holds T w c1.K v2 (.l e2 ys):=s2;subst s0;subst s1;have hob:inj [.v aq [.ow e2 ao xs],.v aq [.i .i64 i],.v aq [.sh e2 ys]] (c6 (dF 0 0))=.o (.row e2 ao xs):=rfl;obtain⟨⟨ti,ht,Qp,jG⟩,MS,am1⟩:=CM.obj _ _ hob;have hti:ti=te:=aJ (ht.symm.trans he);subst hti;generalize hpd:c1.P (dF 0 0)=p at MS Qp;have pre:Pre w p:=⟨λh=>by have:=MS.nil h;exact⟨by rw[MS.n,this.1];rfl,this.2⟩,λh=>by obtain⟨gv,q1,q2,q3,q4,_⟩:=MS.mem h;exact⟨gv,q1,q2,q3,q4⟩⟩
   obtain⟨n,rfl⟩:∃n:aN,i=(n:ay):=⟨i.toNat,by omega⟩
   have hnx:n<=xs.length:=by omega
   have abg:=yN (E:=ofTab T) he s2;have hyl:∀y∈ys,y.length=ti.ks.length:=λy hy=>by rw[<-abg.2 y hy];simp
   have hxl:∀y∈xs,y.length=ti.ks.length:=λy hy=>by rw[<-jG y hy];simp
   obtain⟨B,vc,news,hv2,n1,n2,n3⟩:=abg.1.list hyl;have cellOf:∀k,k<ys.length*ti.ks.length->∃y x,ys[k/ti.ks.length]? =ai y/\y[k%ti.ks.length]? =ai x/\k/ti.ks.length*ti.ks.length+k%ti.ks.length=k:=by
    intro k hk;have h1:k/ti.ks.length<ys.length:=by rw[wX MX];exact hk
    have h2:k%ti.ks.length<ys[k/ti.ks.length].length:=by rw[hyl _ (bw h1)];exact Ea _ MX
    refine⟨_,_,e8 h1,e8 h2,?_⟩
    have:=HY k ti.ks.length;rw[Gv]at this;exact this
   have Qo:∀v∈news,v.oneCell'=true:=λv hv=>by
    obtain⟨k,hk⟩:=bX hv;have hkl:k<ys.length*ti.ks.length:=by rw[<-n1];exact(aW.1 hk).1
    obtain⟨y,x,q1,q2,q3⟩:=cellOf k hkl;obtain⟨u,hu,hr⟩:=n3 _ _ _ _ q1 q2;rw[q3,hk]at hu;cases hu;exact Holds.one (E:=ofTab T) hr
   have ajO:∀b,c1.K b->p.nil=aq->b≠p.blk:=λb hk hn he=>by exact CM.kk _ _ p.blk hob (.inl ⟨by rw[hpd];exact hn,by rw[hpd]⟩) (he▸hk)
   have hB:ys.length=0\/∃b2 o2,B=ai (ad b2 o2)/\(p.nil=aq->b2≠p.blk)/\∀j u,news[j]? =ai u->w.cell? (ad b2 (o2+j))=ai u:=by
    rcases n2 with rfl|⟨b2,o2,rfl,hc2⟩
    ·exact .inl rfl
    ·by_cases h0:ys=[]
     ·subst h0;exact .inl rfl
     ·refine .inr ⟨b2,o2,rfl,λhn=> ?_,hc2⟩;exact ajO _ (holdsK s2 h0 hv2) hn
   have xrel:∀(k:aN) (y:aE CV) (j:aN) (x:CV),p.nil=aq->xs[k]? =ai y->y[j]? =ai x->∃u,w.cell? (ad p.blk (p.off+k*p.sz+j))=ai u/\Sc u x:=by intro k y j x hn hk hj;obtain⟨gv,q1,q2,q3,q4,q5⟩:=MS.mem hn;obtain⟨u,hu,hr⟩:=q5 k y j x hk hj;rw[bm rfl]at hr;exact⟨u,by rw[q1.cell];exact hu,tU (E:=ofTab T) hr (gF hp (jG y (aU hk)) hj)⟩
   have hone2:∀gv k v,p.nil=aq->nb w p.blk gv->k<p.n*p.sz->gv[p.off+k]? =ai v->v.oneCell'=true:=by
    intro gv k v hn hbv hk hkv;rw[Qp]at hk;have h1:k/ti.ks.length<xs.length:=by rw[wX MX,<-MS.n];exact hk
    have h2:k%ti.ks.length<xs[k/ti.ks.length].length:=by rw[hxl _ (bw h1)];exact Ea _ MX
    obtain⟨u,hu,hsc⟩:=xrel _ _ _ _ hn (e8 h1) (e8 h2);have:=HY k ti.ks.length;rw[Gv]at this;rw[Qp,show p.off+k/ti.ks.length*ti.ks.length+k%ti.ks.length=p.off+k by omega,hbv.cell,hkv]at hu;cases hu;rw[hsc.1];exact HJ
   rw[hv2];obtain⟨p',w',hI,hcal⟩:=insert_run (P:=P) (sz:=ti.ks.length) l (by rw[hρ];exact hi) hz hzs hsz MX hov Qp pre (i:=n) (m:=ys.length) (vc:=vc) (by rw[MS.n];exact hnx) n1 hB Qo (by rw[MS.n,hby];exact c3) (by rw[MS.n];exact c4) (λgv k v h1 h2 h3 h4=>hone2 gv k v h1 h2 (by rw[Qp];exact h3) h4);refine hcal.mono ?_;intro e1 w2 hh;rw[hh.1,hh.2];show GA T _ _ c1 w (j5 p') w';rw[dG];generalize hzd:Pu.sR xs n ys=zs;have hzl:zs.length=xs.length+ys.length:=by rw[<-hzd];unfold Pu.sR;simp;omega
   have hzg:∀(k:aN) (y:aE CV),zs[k]? =ai y->(k<n/\xs[k]? =ai y)\/(n<=k/\k<n+ys.length/\ys[k-n]? =ai y)\/(n+ys.length<=k/\xs[k-ys.length]? =ai y):=λk y hk=>insR_get hnx k y (by rw[hzd];exact hk);have hzsh:∀y∈zs,y.map CV.kd=ti.ks:=λy hy=>by
    obtain⟨k,hk⟩:=bX hy;rcases hzg k y hk with ⟨_,h⟩|⟨_,_,h⟩|⟨_,h⟩
    ·exact jG y (aU h)
    ·exact abg.2 y (aU h)
    ·exact jG y (aU h)
   have hzp:∀(k:aN) (y:aE CV) (j:aN) (x:CV),zs[k]? =ai y->y[j]? =ai x->tE x=false:=λk y j x hk hj=>gF hp (hzsh y (aU hk)) hj;let c3:gn:=⟨λm=>if m=dF 500 0 then p' else c1.P m,λm=>if m=dF 500 0 then(λ_ _=>⟨ao,0,0,0,0,0⟩)else c1.G m,c1.K⟩
   have hP3:c3.P (dF 500 0)=p':=by simp[c3]
   have hG3:c3.G (dF 500 0)=λ_ _=>⟨ao,0,0,0,0,0⟩:=by simp[c3]
   have hO:∀m o,nu [.v aq [.ow e2 ao xs],.v aq [.i .i64 n],.v aq [.sh e2 ys]] ⟨[.v aq [.ow e2 ao zs]],[]⟩ (c6 m)=.o o->m=dF 500 0/\o=.row e2 ao zs:=by intro m o ho;have hm:=nz ho (by simp);simp[Jw,Js,uF,sQ,Dv,BK,s5]at hm;exact⟨jI hm.1,hm.2⟩
   have hX:nu [.v aq [.ow e2 ao xs],.v aq [.i .i64 n],.v aq [.sh e2 ys]] ⟨[.v aq [.ow e2 ao zs]],[]⟩ (c6 (dF 500 0))=.o (.row e2 ao zs):=rfl;have Q1:∀i j,¬fT zs i j:=by rintro i j ⟨y,x,h1,h2,h3⟩;rw[hzp i y j x h1 h2]at h3;cases h3
   have noInnX:∀i j,¬fT xs i j:=by rintro i j ⟨y,x,h1,h2,h3⟩;rw[gF hp (jG y (aU h1)) h2]at h3;cases h3
   have XD:∀b,fu c3 (dF 500 0) (.row e2 ao zs) b->p'.nil=aq/\b=p'.blk:=by
    rintro b (⟨h1,h2⟩|⟨_,i,j,h,_⟩)
    ·rw[hP3]at h1 h2;exact⟨h1,h2⟩
    ·exact cJ h (Q1 i j)
   have hOwn1:p.nil=aq->Own (inj [.v aq [.ow e2 ao xs],.v aq [.i .i64 n],.v aq [.sh e2 ys]]) c1 p.blk:=λhn=>⟨_,_,hob,.inl ⟨by rw[hpd];exact hn,by rw[hpd]⟩⟩
   have Uv:p'.nil=aq->p'.blk=w.heap.size\/Own (inj [.v aq [.ow e2 ao xs],.v aq [.i .i64 n],.v aq [.sh e2 ys]]) c1 p'.blk:=λhn=>by
    rcases hI.blk hn with ⟨q1,q2⟩|q
    ·rw[q2];exact .inr (hOwn1 q1)
    ·exact .inl q
   have hKp:∀b,c1.K b->¬(p'.nil=aq/\b=p'.blk):=by
    rintro b hk ⟨hn,rfl⟩;rcases Uv hn with h|h
    ·have:=CM.lt _ hk;omega
    ·exact CM.Fy h hk
   have aeN:∀b,b<w.heap.size->¬Own (inj [.v aq [.ow e2 ao xs],.v aq [.i .i64 n],.v aq [.sh e2 ys]]) c1 b->w'.heap[b]? =w.heap[b]? :=by
    intro b hb XE;refine hI.old b hb (λhn he=> ?_);subst he;rcases Uv hn with h|h
    ·omega
    ·exact XE h
   refine⟨c3,⟨?_,?_,?_,?_,?_,T.gp.fr CM.gp (λb hb=>aeN b (CM.lt b hb) (λho=>CM.Fy ho hb)) (λ_ h=>h)⟩,⟨hI.os,hI.tape,hI.output,hI.size,λb hb=>hb,?_,?_,λb hb=>.inl hb⟩,?_,?_⟩
   ·intro m o ho;obtain⟨rfl,rfl⟩:=hO m o ho;refine⟨⟨ti,he,by rw[hP3,hI.sz,Qp],hzsh⟩,?_,λ_=>⟨λi j h=>cJ h (Q1 i j),λi j i' j' h=>cJ h (Q1 i j)⟩⟩
    rw[hP3];refine⟨by rw[hI.n,MS.n,hzl],λhn=> ?_,λhn=> ?_⟩
    ·obtain⟨q1,q2,q3⟩:=hI.nil hn;rw[MS.n]at q2;exact⟨eO (by omega),q1⟩
    ·obtain⟨nU,q1,q2,q3,q4,q5,q6,q7⟩:=hI.mem hn;refine⟨nU,q1,q2,q3,q4,λk y j x hk hj=> ?_⟩
     simp only[if_true];have hnl:=hzp k y j x hk hj;have hjl:j<ti.ks.length:=by rw[<-hzsh y (aU hk),bJ];exact(aW.1 hj).1
     have fin:∀u:bP,Sc u x->nU[p'.off+k*p'.sz+j]? =ai u->∃u:bP,nU[p'.off+k*p'.sz+j]? =ai u/\XC T w' (c3.G (dF 500 0)) k j u x:=λu h1 h2=>⟨u,h2,tN (E:=ofTab T) hnl h1⟩
     have pnil:∀(k:aN) (y:aE CV),xs[k]? =ai y->p.nil=false:=λk y h=>by
      cases hq:p.nil with
      |false=>rfl
      |true=>have hx:=(MS.nil hq).1;subst hx;cases h
     rw[hI.sz]at fin⊢;rcases hzg k y hk with ⟨r1,r2⟩|⟨r1,r2,r3⟩|⟨r1,r2⟩
     ·obtain⟨u,hu,hsc⟩:=xrel k y j x (pnil k y r2) r2 hj;have hb1:k*p.sz+j<n*p.sz:=by have:=b5 p.sz (show k+1<=n from r1);rw[dc]at this;rw[Qp]at this⊢;omega
      refine fin u hsc ?_;rw[jL];exact q5 _ u hb1 (by rw[<-jL];exact hu)
     ·obtain⟨u,hu,hr⟩:=n3 (k-n) y j x r3 hj;have hb1:(k-n)*p.sz+j<ys.length*p.sz:=by have:=b5 p.sz (show k-n+1<=ys.length by omega);rw[dc]at this;rw[Qp]at this⊢;omega
      refine fin u (oV (E:=ofTab T) hr hnl) ?_;have:=q6 _ hb1;rw[Qp]at this⊢;rw[hu,<-jL,uA]at this;have hmn:n*ti.ks.length<=k*ti.ks.length:=b5 _ r1;rw[<-this];congr 1;omega
     ·obtain⟨u,hu,hsc⟩:=xrel (k-ys.length) y j x (pnil _ y r2) r2 hj;have hkx:k-ys.length<xs.length:=(aW.1 r2).1;have hb1:(k-(n+ys.length))*p.sz+j<(p.n-n)*p.sz:=by have:=b5 p.sz (show k-(n+ys.length)+1<=p.n-n by rw[MS.n];omega);rw[dc]at this;rw[Qp]at this⊢;omega
      refine fin u hsc ?_;have:=q7 _ u hb1;rw[Qp]at this hu⊢;have m1:(n+ys.length)*ti.ks.length<=k*ti.ks.length:=b5 _ r1;have e1:(k-(n+ys.length))*ti.ks.length=k*ti.ks.length-(n+ys.length)*ti.ks.length:=uA _ _ _;have e2:(k-ys.length)*ti.ks.length=k*ti.ks.length-ys.length*ti.ks.length:=uA _ _ _;have e3:(n+ys.length)*ti.ks.length=n*ti.ks.length+ys.length*ti.ks.length:=dc _ _ _;rw[e1]at this;rw[e2]at hu;have:=this (by rw[<-hu];congr 2;omega);rw[<-this];congr 1;omega
   ·intro m o m' o' b h1 h2 _ _;obtain⟨rfl,_⟩:=hO m o h1;obtain⟨rfl,_⟩:=hO m' o' h2;rfl
   ·intro m o b h1 h2 h3;obtain⟨rfl,rfl⟩:=hO m o h1;exact hKp b h3 (XD b h2)
   ·intro b hb;exact iB (CM.lt b hb) hI.size
   ·intro m bs h1;obtain⟨_,h2⟩:=hO m _ h1;cases h2
   ·intro b hb XE;refine hI.old b hb (λhn he=> ?_);subst he;rcases Uv hn with h|h
    ·omega
    ·exact XE h
   ·rintro b ⟨m,o,h1,h2⟩;obtain⟨rfl,rfl⟩:=hO m o h1;obtain⟨q1,rfl⟩:=XD b h2;rcases Uv q1 with h|h
    ·exact .inr (by omega)
    ·exact .inl h
   ·intro m hm;have:m≠dF 500 0:=by rintro rfl;apply hm;rfl
    exact⟨bh this,bh this⟩
   ·show pO T w' c3 aq [.own (dF 500 0)] (j5 p');show j5 p'=j5 (c3.P (dF 500 0));rw[hP3]
 ·cases h
end
end Go.FG.Ins
