/- slices.Insert at elements of plain cells, over any program that bears its text: a call of it does what is told. No condition but those that are stated. -/
import Derived.Test.YtjejmgffiilmlaaGreatLib
import Derived.Shelf.Bodies2
import Derived.Shelf.RegionOpenPlain
import Derived.WalkKit
import Derived.Lib.Walk
import Derived.Lib.SliceRun
import Derived.Lib.JoinLaws
import Derived.Lib.AppendZeros
import Derived.Lib.Overlaps
import Derived.Laws.Externs
import Derived.Laws.IdiomCopy
import Derived.Lib.AppendZerosOnto
set_option linter.unusedVariables false
set_option linter.unusedSimpArgs false
set_option maxRecDepth 100000
open Array renaming length_toList->dN,getElem?_toList->cQ,getElem?_eq_some_iff->dQ,append_assoc->Ms,getElem?_append_left->CL,getElem?_eq_none->FK
open Bool renaming true->ak,false->aq,and_eq_true->aK
open Go renaming Program->cR,World->bF,Oper->e8,Operand->dr,Value->bg,TypeInfo->Iv
open Go.Act renaming eval->Gg,put->Tx
open Go.Builtin renaming copy_->gj,append_->g8,firstCells->e7,lenOf->oU,zeroCells->fw
open Go.Extern.SlicesOverlaps renaming overlaps->gC
open Go.IntKind renaming i64->ar,wrap_i64->pF
open Go.Lib renaming wpList_append_run->sS
open Go.Oper renaming wp->Mv
open Go.Region renaming wanted->tZ
open Go.Result renaming andThen_ok->bB
open Go.Sem renaming run_bind->cg,run_pure->cM,run->mI
open Go.Value renaming bool->BT
open Go.World renaming cell?_of_block->tE,shape?->Xn,frozen?->Xm,setRow->kV
open Int renaming toNat_natCast->dA
open List renaming map_toArray->Ca,map_cons->e9,map_nil->Ao,length_take->eu,length_drop->ia,getElem?_take->dV,getElem?_drop->dM,getElem?_of_mem->bZ,getElem?_eq_some_iff->aU,getElem?_eq_getElem->eI,size_toArray->TE,getElem?_toArray->gU,append_assoc->cj,getElem?_append_left->dj,getElem?_append_right->c6,all_eq_true->bn,getElem_mem->bD,mem_of_getElem?->aQ,eq_nil_of_length_eq_zero->fV,length_map->bQ
open Nat renaming min->PJ,le_refl->cu,eq_zero_or_pos->BU,add_zero->wP,mul_le_mul_right->b7,add_mul->dc,sub_mul->t_,min_def->KE,add_assoc->lB,zero_add->bT,beq->bA,eq_of_beq_eq_true->aX,div_lt_iff_lt_mul->wA,mod_lt->BV,div_add_mod->H9,mul_comm->CS,lt_of_lt_of_le->jd
open Option renaming some->aj,none->ao
open Option.some renaming inj->aF
open Prod.mk renaming inj->bU
open _root_ renaming Nat->aG,Array->di,List->aA,if_pos->bC,Option->aC,Int->az,if_neg->bM,absurd->cq,Bool->aY,cond_true->ay,decide_eq_true_eq->bf
namespace Go.FG.Ins
open Go Go.Shelf Go.RowKit Go.Lib Go.Proofs
structure L (P:cR) (ρ:Ren) (nm:String) (sz:aG):Prop where
 mixed:P.follows .mixedOrders=ak
 f22:P.funcs[ρ.f 22]? =aj {Body2.n22 ρ with name:=nm}
 t3:P.underlying (ρ.t 3)=aj (TypeDesc.int ar)
 a3:∀w,(Go.isAgg (ρ.t 3)).run P w= .ok aq w
 t4:P.underlying (ρ.t 4)=aj (TypeDesc.bool)
 a4:∀w,(Go.isAgg (ρ.t 4)).run P w= .ok aq w
 t24:P.underlying (ρ.t 24)=aj (TypeDesc.slice (ρ.t 9))
 a24:∀w,(Go.isAgg (ρ.t 24)).run P w= .ok aq w
 z9:∀w,(Go.sizeOf (ρ.t 9)).run P w= .ok sz w
variable {P:cR} {ρ:Ren} {nm:String} {sz:aG}
theorem wpList_copy(w:bF){ops:di e8}{rest:aA e8}{o:e8}{a:Act}{Q:Exit->Act->bF->Prop}(hgd:o.guard=ao)(d s:dr)(t t':TypeId)
  (ho:o.op= .call {callee:= .builtin .copy,args:= #[d,s],argTypes:= #[t,t']}) (v u:bg) (hd:a.eval d=v) (hs:a.eval s=u) {v':bg} {w':bF}
  (hr:(gj #[t,t'] o.type #[v,u]).run P w= .ok v' w') (h:wpList P ops Q rest (a.put o.dst v') w'):wpList P ops Q (o::rest) a w:=
 wpList_plain hgd λ_ hK=>by
  unfold Mv execOp;simp only[ho,resolve,invoke,builtin,cg,cM,bB,Ca,e9,Ao,hd,hs,hr];exact hK _ _ h
theorem step_copy{ops:di e8}{o:e8}{a:Act}{w:bF}{K:Act->bF->Prop}{Q:Exit->Act->bF->Prop}{E:Prop}
  (hg:o.guard=ao) (d x:dr) (dT sT:TypeId) (hop:o.op=Op.call {callee:=Callee.builtin Builtin.copy,args:= #[d,x],argTypes:= #[dT,sT]})
  (v u:bg) (hd:a.eval d=v) (hx:a.eval x=u) {v':bg} {w':bF} (hr:(gj #[dT,sT] o.type #[v,u]).run P w= .ok v' w') (hK:K (a.put o.dst v') w'):
  if tZ o (yielded ops a.tmps)=ak then Mv P o a w K Q else E:=by
 have hw:tZ o (yielded ops a.tmps)=true:=by simp[tZ,hg]
 rw[bC hw];unfold Mv;simp[execOp,hop,resolve,invoke,builtin,hd,hx,hr,Result.andThen];exact hK
set_option maxHeartbeats 4000000 in
set_option maxRecDepth 100000 in
theorem zero(l:L P ρ nm sz)(w:bF)(A B:aC Addr)(n c i vc:aG)(hi:i<=n)(hn:n<=9223372036854775807)(hA:A=ao/\n=0\/∃b o,A=aj ⟨b,o,ao⟩):
  Calls P (ρ.f 22) #[.slice A n c, .int .i64 i, .slice B 0 vc] w λe w'=>e= .returned (.slice A n c)/\w'=w:=by
 have t3:=l.t3;have a3:=l.a3;have t4:=l.t4;have a4:=l.a4;have t24:=l.t24;have a24:=l.a24;have z9:=l.z9;have u3:=run_underlying l.t3;have u4:=run_underlying l.t4;have u24:=run_underlying l.t24;have hb1:(0:az)<=(i:az):=by omega
 have Dn:(i:az)<=(n:az):=by omega
 go_enter l.f22,Body2.n22_ntmps ρ;rcases hA with ⟨rfl,rfl⟩|⟨b,o,rfl⟩
 ·obtain rfl:i=0:=by omega
  go_wp2;go_ret;exact⟨rfl,rfl⟩
 ·go_wp2;all_goals (go_ret;exact⟨rfl,rfl⟩)
set_option maxHeartbeats 4000000 in
set_option maxRecDepth 100000 in
theorem atEnd(l:L P ρ nm sz)(w w1:bF)(A B:aC Addr)(n c m vc:aG)(r:bg)(hm:0<m)(hn:n<=9223372036854775807)(hA:A=ao/\n=0\/∃b o,A=aj ⟨b,o,ao⟩)
  (h1:∀ty,(g8 #[ρ.t 24,ρ.t 24] ty #[.slice A n c, .slice B m vc]).run P w= .ok r w1):
  Calls P (ρ.f 22) #[.slice A n c, .int .i64 n, .slice B m vc] w λe w'=>e= .returned r/\w'=w1:=by
 have t3:=l.t3;have a3:=l.a3;have t4:=l.t4;have a4:=l.a4;have t24:=l.t24;have a24:=l.a24;have z9:=l.z9;have u3:=run_underlying l.t3;have u4:=run_underlying l.t4;have u24:=run_underlying l.t24;have Ih:¬((m:az)=0):=by omega
 go_enter l.f22,Body2.n22_ntmps ρ;rcases hA with ⟨rfl,rfl⟩|⟨b,o,rfl⟩
 ·go_wp2_with (at_builtin;refine sS _ rfl _ _ _ _ rfl _ _ rfl rfl _ _ (h1 _) ?_)
  go_ret;exact⟨rfl,rfl⟩
 ·go_wp2_with (at_builtin;refine sS _ rfl _ _ _ _ rfl _ _ rfl rfl _ _ (h1 _) ?_)
  all_goals (go_ret;exact⟨rfl,rfl⟩)
set_option maxHeartbeats 4000000 in
set_option maxRecDepth 100000 in
theorem shift(l:L P ρ nm sz)(w w1 w2:bF)(x1 x2:bg)(b o n c i m vc:aG)(B:aC Addr)(hi:i<n)(hm:0<m)(hroom:n+m<=c)(hc63:c<=9223372036854775807)
  (M8:∀lb cb,(callFunc (ρ.f 29) #[.slice B m vc, .slice (aj ⟨b,o+(i+m)*sz,ao⟩) lb cb]).run P w= .ok (.value (.bool aq)) w)
  (h1:∀ty,(gj #[ρ.t 24,ρ.t 24] ty #[.slice (aj ⟨b,o+(i+m)*sz,ao⟩) (n+m-(i+m)) (c-(i+m)), .slice (aj ⟨b,o+i*sz,ao⟩) (n+m-i) (c-i)]).run P w.drew= .ok x1 w1)
  (h2:∀ty,(gj #[ρ.t 24,ρ.t 24] ty #[.slice (aj ⟨b,o+i*sz,ao⟩) (n+m-i) (c-i), .slice B m vc]).run P w1= .ok x2 w2):
  Calls P (ρ.f 22) #[.slice (aj ⟨b,o,ao⟩) n c, .int .i64 i, .slice B m vc] w λe w'=>e= .returned (.slice (aj ⟨b,o,ao⟩) (n+m) c)/\w'=w2:=by
 have t3:=l.t3;have a3:=l.a3;have t4:=l.t4;have a4:=l.a4;have t24:=l.t24;have a24:=l.a24;have z9:=l.z9;have u3:=run_underlying l.t3;have u4:=run_underlying l.t4;have u24:=run_underlying l.t24;have Ih:¬((m:az)=0):=by omega
 have CB:¬((i:az)=(n:az)):=by omega
 have mixed:=l.mixed;have hw1:ar.wrap ((i:az)+(m:az))=(i:az)+(m:az):=by rw[pF];omega
 have hb1:(0:az)<=(i:az)+(m:az):=by omega
 have gQ:i<=n:=by omega
 have htn:((i:az)+(m:az)).toNat=i+m:=by omega
 have Dn:¬(c=i+m):=by omega
 have hb3:(i:az)<=(n:az)+(m:az):=by omega
 have hb4:¬(c=i):=by omega
 go_enter l.f22,Body2.n22_ntmps ρ;go_wp2_with (simp only[M8])
 go_region_law_o (refine step_copy rfl _ _ (ρ.t 24) (ρ.t 24) rfl _ _ (by simp[Gg,Tx]) (by simp[Gg,Tx]) (h1 _) ?_);go_wp2_with (at_builtin;refine wpList_copy _ rfl _ _ (ρ.t 24) (ρ.t 24) rfl _ _ rfl rfl (h2 _) ?_)
 go_ret;exact⟨rfl,rfl⟩
set_option maxHeartbeats 4000000 in
set_option maxRecDepth 100000 in
theorem grow(l:L P ρ nm sz)(w w1 w2 w3:bF)(x2 x3:bg)(b o b' n c c' i m vc:aG)(B:aC Addr)(hi:i<n)(hm:0<m)(QC:n<=c)(hroom:c<n+m)(EX:n+m<=9223372036854775807)(G7:n+m<=c')(hc63:c'<=9223372036854775807)
  (h1:∀ty,(g8 #[ρ.t 24,ρ.t 3] ty #[.slice (aj ⟨b,o,ao⟩) i c, .int .i64 ((n:az)+(m:az)-(i:az))]).run P w= .ok (.slice (aj ⟨b',0,ao⟩) (n+m) c') w1)
  (h2:∀ty,(gj #[ρ.t 24,ρ.t 24] ty #[.slice (aj ⟨b',i*sz,ao⟩) (n+m-i) (c'-i), .slice B m vc]).run P w1= .ok x2 w2)
  (h3:∀ty,(gj #[ρ.t 24,ρ.t 24] ty #[.slice (aj ⟨b',(i+m)*sz,ao⟩) (n+m-(i+m)) (c'-(i+m)), .slice (aj ⟨b,o+i*sz,ao⟩) (n-i) (c-i)]).run P w2.drew= .ok x3 w3):
  Calls P (ρ.f 22) #[.slice (aj ⟨b,o,ao⟩) n c, .int .i64 i, .slice B m vc] w λe w'=>e= .returned (.slice (aj ⟨b',0,ao⟩) (n+m) c')/\w'=w3:=by
 have t3:=l.t3;have a3:=l.a3;have t4:=l.t4;have a4:=l.a4;have t24:=l.t24;have a24:=l.a24;have z9:=l.z9;have u3:=run_underlying l.t3;have u4:=run_underlying l.t4;have u24:=run_underlying l.t24;have Ih:¬((m:az)=0):=by omega
 have CB:¬((i:az)=(n:az)):=by omega
 have hz3:(c:az)<(n:az)+(m:az):=by omega
 have mixed:=l.mixed;have hw0:ar.wrap ((n:az)+(m:az))=(n:az)+(m:az):=by rw[pF];omega
 have hw2:ar.wrap ((n:az)+(m:az)-(i:az))=(n:az)+(m:az)-(i:az):=by rw[pF];omega
 have hw1:ar.wrap ((i:az)+(m:az))=(i:az)+(m:az):=by rw[pF];omega
 have hb1:(0:az)<=(i:az)+(m:az):=by omega
 have gQ:i<=n:=by omega
 have htn:((i:az)+(m:az)).toNat=i+m:=by omega
 have hGi:¬(c'=i):=by omega
 have hGim:¬(c'=i+m):=by omega
 have hci:¬(c=i):=by omega
 have hic:i<=c:=by omega
 have hb3:(i:az)<=(n:az):=by omega
 have hb4:(i:az)<=(n:az)+(m:az):=by omega
 go_enter l.f22,Body2.n22_ntmps ρ
 go_wp2_with (first
  |(at_builtin;refine sS _ rfl _ _ _ _ rfl _ _ rfl rfl _ _ (h1 _) ?_)
  |(at_builtin;refine wpList_copy _ rfl _ _ (ρ.t 24) (ρ.t 24) rfl _ _ rfl rfl (h2 _) ?_))
 go_region_law_o (refine step_copy rfl _ _ (ρ.t 24) (ρ.t 24) rfl (.slice (aj ⟨b',(i+m)*sz,ao⟩) (n+m-(i+m)) (c'-(i+m))) (.slice (aj ⟨b,o+i*sz,ao⟩) (n-i) (c-i)) (by simp[Gg,Tx]) (by simp[Gg,Tx]) (h3 (ρ.t 3)) ?_);go_wp2;go_ret;exact⟨rfl,rfl⟩
end Go.FG.Ins

namespace Go.FG.Ins
open Go Go.Shelf Go.RowKit Go.Lib Go.Proofs
section
variable {P:cR}
theorem run_copyG{w:bF}{dT sT ty elem sz b o dLen dCap sLen sCap m:aG}{B:aC Addr}{cs:aA bg}{cur:di bg}(hu:P.underlying dT=aj (.slice elem))(hs:∀w,(sizeOf elem).run P w= .ok sz w)
  (hf:(e7 sz m (.slice B sLen sCap)).run P w= .ok cs.toArray w) (hm:PJ sLen dLen=m) (hb:nq w b cur) (hl:o+cs.length<=cur.size) (h1:∀v∈cs,v.oneCell'=ak):
  (gj #[dT,sT] ty #[.slice (aj (ad b o)) dLen dCap, .slice B sLen sCap]).run P w= .ok (goInt m) (w.setRow b (dY cur o cs)):=by have Ju:=mX (P:=P) w hb hl h1;have vN:min sLen dLen=m:=hm;simp[gj,run_underlying hu,oU,hs,vN,hf,Ju]
theorem blk_drew{w:bF}{b:aG}{cur:di bg}(h:nq w b cur):nq w.drew b cur:=h
theorem cell_setRow_other{w:bF}{b b2 o:aG}{new:di bg}(h:b2≠b):(w.setRow b new).cell? (ad b2 o)=w.cell? (ad b2 o):=tE (setRow_other w b b2 _ h)
structure Insd (w w':bF) (p p':Pl) (i m:aG) (news:aA bg):Prop where
 n:p'.n=p.n+m
 sz:p'.sz=p.sz
 nil:p'.nil=ak->p'.cap=0/\p.n=0/\m=0
 mem:p'.nil=aq->∃iN,nq w' p'.blk iN/\p'.n<=p'.cap/\p'.cap<=maxLen/\p'.off+p'.cap*p'.sz<=iN.size/\
  (∀k u,k<i*p.sz->w.cell? (ad p.blk (p.off+k))=aj u->iN[p'.off+k]? =aj u)/\(∀k,k<m*p.sz->iN[p'.off+i*p.sz+k]? =news[k]?)/\
  (∀k u,k<(p.n-i)*p.sz->w.cell? (ad p.blk (p.off+i*p.sz+k))=aj u->iN[p'.off+(i+m)*p.sz+k]? =aj u)
 blk:p'.nil=aq->(p.nil=aq/\p'.blk=p.blk)\/p'.blk=w.heap.size
 old:∀b,b<w.heap.size->(p'.nil=aq->b≠p'.blk)->w'.heap[b]? =w.heap[b]?
 size:w.heap.size<=w'.heap.size
 os:w'.os=w.os
 tape:w'.tape=w.tape
 output:w'.output=w.output
structure Pre (w:bF) (p:Pl):Prop where
 nil:p.nil=ak->p.n=0/\p.cap=0
 mem:p.nil=aq->∃vals,nq w p.blk vals/\p.n<=p.cap/\p.cap<=maxLen/\p.off+p.cap*p.sz<=vals.size
variable {ρ:Ren} {nm:String}
theorem overlaps_false{w:bF}{tS tR e:TypeId}(ht:P.underlying tS=aj (.slice e)){size:aG}(hz:∀w,(Go.sizeOf e).run P w= .ok size w){B:aC Addr}{m vc b o:aG}{vals:di bg}(hb:nq w b vals)(ho:o<vals.size)
  (hB:∀a,B=aj a->0<m->a.block≠b/\∃t k,w.shape? a.block=aj (t,k+1)) (lb cb:aG):
  (gC #[tS,tS] #[tR] #[.slice B m vc, .slice (aj (ad b o)) lb cb]).run P w= .ok (.bool aq) w:=by
 obtain⟨t,fr,hg,Cv⟩:=hb;have hsb:w.shape? b=aj (t,vals.size):=by simp[Xn,hg]
 have f1:w.frozen? ⟨b,o,ao⟩=false:=by have:=Cv o (by omega);simpa [Xm,hg]using this
 have f2:w.frozen? ⟨b,vals.size,ao⟩=false:=by have:=Cv vals.size (cu _);simpa [Xm,hg]using this
 have hne0:vals.size≠0:=by omega
 change mI P (α:=bg) (do
  let aj t:=(#[tS,tS]:di TypeId)[0]? |stuck "slices.overlaps: no parameter types"
  let .slice elem<-underlying t|stuck "slices.overlaps: slice type expected"
  let size<-sizeOf elem
  match B,(aj (ad b o):aC Addr)with
  |some a,aj b=>
   if m=0\/lb=0\/size=0 then pure (BT aq)
   else if a.block !=b.block&&(<-frozen a)&&(<-frozen b)then unsupported .addressObserved
   else do
    if a.block !=b.block then do
     noView a;noView b
     if<-mayBeOne a b then return BT ((<-choose (.extern "sameAddr.stringBytes" 2))==1)
    pure (BT (a.block==b.block&&a.off<b.off+lb*size&&b.off<a.off+m*size))
  |_,_=>pure (BT aq)) w=_
 cases B with
 |none=>simp[run_underlying ht,hz]
 |some a=>
  by_cases h0:m=0\/lb=0\/size=0
  ·simp[run_underlying ht,hz,h0]
  ·have hm:0<m:=by omega
   obtain⟨ic,ta,k,hsa⟩:=hB a rfl hm;have Js:(a.block !=b)=true:=by simpa using ic
   have hnb':(a.block==b)=false:=by simpa using ic
   obtain⟨n,hn⟩:∃n,vals.size=n+1:=⟨vals.size-1,by omega⟩
   rw[hn]at hsb f2;simp[run_underlying ht,hz,h0,Js,hnb',ic,frozen,noView,viewAt,mayBeOne,stringish,shape,mI,hsa,hsb,f1,f2]
theorem first_of{w:bF}{sz m b o len cap:aG}{cs:aA bg}(hl:cs.length=m*sz)(h:∀j u,cs[j]? =aj u->w.cell? (ad b (o+j))=aj u):(e7 sz m (.slice (aj (ad b o)) len cap)).run P w= .ok cs.toArray w:=
 run_firstCells_some w sz m _ _ _ cs hl (λj v hj=>by rw[Addr.nA];exact h j v hj)
theorem insert_run{sz:aG}(l:L P ρ nm sz){inf:Iv}{z:bg}(hi:P.info? (ρ.t 9)=aj inf)(hz:inf.zero=aj z)(N_:z.cells.size=sz)(fX:inf.size=sz)(kH:0<sz)
  (M8:∀args w,(callFunc (ρ.f 29) args).run P w=((gC #[ρ.t 24,ρ.t 24] #[ρ.t 4] args).run P w).andThen λv w'=> .ok (.value v) w')
  {w:bF} {p:Pl} (hp:p.sz=sz) (pre:Pre w p) {i m vc:aG} {B:aC Addr} {news:aA bg} (gQ:i<=p.n) (hv:news.length=m*sz) (hB:m=0\/∃b2 o2,B=aj (ad b2 o2)/\(p.nil=aq->b2≠p.blk)/\∀j u,news[j]? =aj u->w.cell? (ad b2 (o2+j))=aj u)
  (vO:∀v∈news,v.oneCell'=ak) (h1:(p.n+m)*inf.bytes<=140737488355328) (h2:p.n+m<=9223372036854775807) (hone2:∀vals k v,p.nil=aq->nq w p.blk vals->k<p.n*sz->vals[p.off+k]? =aj v->v.oneCell'=ak):
  ∃p' w',Insd w w' p p' i m news/\Calls P (ρ.f 22) #[lh p, .int .i64 i, .slice B m vc] w (λe w2=>e= .returned (lh p')/\w2=w'):=by
 subst hp;have X8:p.n<=9223372036854775807:=by omega
 rcases BU m with rfl|hm
 ·refine⟨p,w,⟨rfl,rfl,λh=>⟨(pre.nil h).2,(pre.nil h).1,rfl⟩,λh=> ?_,λh=> .inl ⟨h,rfl⟩,λ_ _ _=>rfl,cu _,rfl,rfl,rfl⟩, ?_⟩
  ·obtain⟨vals,hb,q1,q2,q3⟩:=pre.mem h;refine⟨vals,hb,q1,q2,q3,λk u _ hu=>by rw[<-hb.cell];exact hu,λk hk=>by simp at hk,λk u _ hu=> ?_⟩
   rw[<-hb.cell,wP];exact hu
  ·cases hq:p.nil with
   |true=>have h0:=(pre.nil hq).1;rw[mU hq];have:=zero l w ao B 0 0 i vc (by omega) (by omega) (.inl ⟨rfl,rfl⟩);exact this
   |false=>rw[eP hq];exact zero l w _ B p.n p.cap i vc gQ X8 (.inr ⟨_,_,rfl⟩)
 ·obtain⟨b2,o2,rfl,Dn,hcell⟩:=hB.resolve_left (by omega);by_cases hend:i=p.n
  ·subst hend;have happ:App P w (ρ.t 24) (.slice (aj (ad b2 o2)) m vc) z.cells p.sz m news:=by refine⟨.inl ⟨.inl ⟨_,l.t24⟩,by simp[oU],first_of hv hcell,first_of (w:=w.drew) hv hcell⟩,hv,vO⟩
   obtain⟨p',w',hr,hA⟩:=sJ (P:=P) (w:=w) (t:=ρ.t 24) (u:=ρ.t 24) (ty:=0) (p:=p) l.t24 hi hz N_ fX (λh=>(pre.nil h).1) pre.mem happ h1 h2;refine⟨p',w',⟨hA.n,hA.sz,hA.nil,λh=> ?_,hA.blk,hA.old,hA.size,hA.os,hA.tape,hA.output⟩, ?_⟩
   ·obtain⟨iN,q1,q2,q3,q4,q5,q6⟩:=hA.mem h;exact⟨iN,q1,q2,q3,q4,q5,q6,λk u hk _=>by simp at hk⟩
   ·have Cx:∀ty,(g8 #[ρ.t 24,ρ.t 24] ty #[lh p, .slice (aj (ad b2 o2)) m vc]).run P w= .ok (lh p') w':=λty=>hr;cases hq:p.nil with
    |true=>have h0:=(pre.nil hq).1;rw[mU hq]at Cx⊢;have:=atEnd l w w' ao (aj (ad b2 o2)) 0 0 m vc (lh p') hm (by omega) (.inl ⟨rfl,rfl⟩) Cx;rw[h0];exact this
    |false=>rw[eP hq]at Cx⊢;exact atEnd l w w' _ (aj (ad b2 o2)) p.n p.cap m vc (lh p') hm X8 (.inr ⟨_,_,rfl⟩) Cx
  ·have jG:i<p.n:=by omega
   have hq:p.nil=false:=by
    cases h:p.nil with
    |false=>rfl
    |true=>have:=(pre.nil h).1;omega
   obtain⟨vals,hb,QC,Qv,nD⟩:=pre.mem hq;have ic:=Dn hq;rw[eP hq];have m1:i*p.sz<=p.n*p.sz:=b7 _ gQ;have m2:p.n*p.sz<=p.cap*p.sz:=b7 _ QC;have e1:(i+m)*p.sz=i*p.sz+m*p.sz:=dc _ _ _;have e2:(p.n-i)*p.sz=p.n*p.sz-i*p.sz:=t_ _ _ _;have m0:i*p.sz+p.sz<=p.n*p.sz:=by have:=b7 p.sz (show i+1<=p.n by omega);rwa[dc,Nat.one_mul]at this
   have hp0:p.sz<=m*p.sz:=Nat.le_mul_of_pos_left _ hm;have n1:PJ (p.n+m-i) (p.n+m-(i+m))=p.n-i:=by simp only[KE];split<;>omega
   have n2:PJ m (p.n+m-i)=m:=by simp only[KE];split<;>omega
   have n3:PJ (p.n-i) (p.n+m-(i+m))=p.n-i:=by simp only[KE];split<;>omega
   let tail:=(vals.toList.drop (p.off+i*p.sz)).take ((p.n-i)*p.sz);have htl:tail.length=(p.n-i)*p.sz:=by simp only[tail,eu,ia,dN];omega
   have htg:∀k,k<(p.n-i)*p.sz->tail[k]? =vals[p.off+i*p.sz+k]? :=λk hk=>by simp only[tail,dV,bC hk,dM,cQ]
   have ht1:∀v∈tail,v.oneCell'=true:=λv hv=>by
    obtain⟨k,hk⟩:=bZ hv;have Ig:k<(p.n-i)*p.sz:=by rw[<-htl];exact(aU.1 hk).1
    rw[htg k Ig]at hk;exact hone2 vals (i*p.sz+k) v hq hb (by omega) (by rw[<-lB];exact hk)
   by_cases hroom:p.n+m<=p.cap
   ·-- in place
    have m3:(p.n+m)*p.sz<=p.cap*p.sz:=b7 _ hroom;rw[dc]at m3;have Lu:p.off+(i+m)*p.sz+tail.length<=vals.size:=by rw[htl];omega
    have hb1:nq (w.drew.setRow p.blk (dY vals (p.off+(i+m)*p.sz) tail)) p.blk (dY vals (p.off+(i+m)*p.sz) tail):=nq.setRow (w:=w.drew) (blk_drew hb) (eS Lu);have Jr:p.off+i*p.sz+news.length<=(dY vals (p.off+(i+m)*p.sz) tail).size:=by rw[eS Lu,hv];omega
    have c1:∀ty,(gj #[ρ.t 24,ρ.t 24] ty #[.slice (aj ⟨p.blk,p.off+(i+m)*p.sz,ao⟩) (p.n+m-(i+m)) (p.cap-(i+m)), .slice (aj ⟨p.blk,p.off+i*p.sz,ao⟩) (p.n+m-i) (p.cap-i)]).run P w.drew= .ok (goInt ((p.n-i:aG):az)) (w.drew.setRow p.blk (dY vals (p.off+(i+m)*p.sz) tail)):=λty=>
     run_copyG (P:=P) (w:=w.drew) l.t24 l.z9 (first_of (w:=w.drew) htl (λj u hj=>by
      have jF:j<(p.n-i)*p.sz:=by rw[<-htl];exact(aU.1 hj).1
      rw[htg j jF]at hj;exact(hb.cell _).trans hj)) n1 (blk_drew hb) Lu ht1
    have c2:∀ty,(gj #[ρ.t 24,ρ.t 24] ty #[.slice (aj ⟨p.blk,p.off+i*p.sz,ao⟩) (p.n+m-i) (p.cap-i), .slice (aj (ad b2 o2)) m vc]).run P (w.drew.setRow p.blk (dY vals (p.off+(i+m)*p.sz) tail))= .ok (goInt m) ((w.drew.setRow p.blk (dY vals (p.off+(i+m)*p.sz) tail)).setRow p.blk (dY (dY vals (p.off+(i+m)*p.sz) tail) (p.off+i*p.sz) news)):=λty=>
     run_copyG (P:=P) l.t24 l.z9 (first_of hv (λj u hj=>by rw[cell_setRow_other ic];exact hcell j u hj)) n2 hb1 Jr vO
    have hcal:=shift l w _ _ _ _ p.blk p.off p.n p.cap i m vc (aj (ad b2 o2)) jG hm hroom Qv (λlb cb=>by
     rw[M8,overlaps_false (P:=P) (w:=w) l.t24 l.z9 hb (o:=p.off+(i+m)*p.sz) (by omega) (λa ha _=>by
      cases ha;have h0:0<news.length:=by rw[hv];omega
      have:=hcell 0 _ (eI h0);refine⟨ic, ?_⟩
      unfold World.cell? at this;unfold Xn;split at this
      ·rename_i cc tt ff hg;rw[hg];simp at this;obtain⟨hlt2,_⟩:=dQ.1 this;exact⟨tt,cc.size-1,by simp;omega⟩
      ·cases this) lb cb]
     rfl) c1 c2
    refine⟨⟨aq,p.blk,p.off,p.cap,p.n+m,p.sz⟩,(w.drew.setRow p.blk (dY vals (p.off+(i+m)*p.sz) tail)).setRow p.blk (dY (dY vals (p.off+(i+m)*p.sz) tail) (p.off+i*p.sz) news),⟨rfl,rfl,λh=>(by cases h),λ_=> ?_,λ_=> .inl ⟨hq,rfl⟩,λb N4 Js=> ?_,by simp[kV],rfl,rfl,rfl⟩,by rw[eP rfl];exact hcal⟩
    ·refine⟨_,hb1.setRow (eS Jr),hroom,Qv,by rw[eS Jr,eS Lu];exact nD,λk u hk hu=> ?_,λk hk=> ?_,λk u hk hu=> ?_⟩
     ·show(dY (dY vals (p.off+(i+m)*p.sz) tail) (p.off+i*p.sz) news)[p.off+k]? =aj u;rw[gd Jr,bM (by omega),gd Lu,bM (by omega),<-hb.cell];exact hu
     ·show(dY (dY vals (p.off+(i+m)*p.sz) tail) (p.off+i*p.sz) news)[p.off+i*p.sz+k]? =news[k]?;rw[gd Jr,bC (by rw[hv];omega)];congr 1;omega
     ·show(dY (dY vals (p.off+(i+m)*p.sz) tail) (p.off+i*p.sz) news)[p.off+(i+m)*p.sz+k]? =aj u;rw[gd Jr,bM (by rw[hv];omega),gd Lu,bC (by rw[htl];omega),show p.off+(i+m)*p.sz+k-(p.off+(i+m)*p.sz)=k by omega,htg k hk,<-hb.cell];exact hu
    ·have hbne:b≠p.blk:=Js rfl;rw[setRow_other _ _ b _ hbne,setRow_other _ _ b _ hbne];rfl
   ·-- a new row
    have hgo:p.cap<p.n+m:=by omega
    let oO:=(vals.toList.drop p.off).take (i*p.sz);have FX:oO.length=i*p.sz:=by simp only[oO,eu,ia,dN];omega
    have hog:∀k,k<i*p.sz->oO[k]? =vals[p.off+k]? :=λk hk=>by simp only[oO,dV,bC hk,dM,cQ]
    have X3:i+(p.n+m-i)=p.n+m:=by omega
    have Qz:(p.n:az)+(m:az)-(i:az)=((p.n+m-i:aG):az):=by omega
    have hold:(e7 inf.size i (.slice (aj (ad p.blk p.off)) i p.cap)).run P w.drew= .ok oO.toArray w.drew:=by
     rw[fX];exact first_of (w:=w.drew) FX (λj u hj=>by
      have jF:j<i*p.sz:=by rw[<-FX];exact(aU.1 hj).1
      rw[hog j jF]at hj;exact(hb.cell _).trans hj)
    have hG:=grownCap_ge w (p.n+m) p.cap (ρ.t 9);have hG2:=grownCap_le_maxLen w (p.n+m) p.cap (ρ.t 9) (by unfold maxLen;omega);generalize hGd:grownCap w (p.n+m) p.cap (ρ.t 9)=G at hG hG2;obtain⟨arr,harr⟩:∃arr:di bg,arr=oO.toArray++fw z.cells (p.n+m-i)++fw z.cells (G-(p.n+m)):=⟨_,rfl⟩
    have a1:∀ty,(g8 #[ρ.t 24,ρ.t 3] ty #[.slice (aj ⟨p.blk,p.off,ao⟩) i p.cap, .int .i64 ((p.n:az)+(m:az)-(i:az))]).run P w= .ok (.slice (aj ⟨w.heap.size,0,ao⟩) (p.n+m) G) (w.drew.alloc (.cells arr (ρ.t 9))):=λty=>by have hmb:(p.n+m-i)*inf.bytes<=(p.n+m)*inf.bytes:=b7 _ (by omega);have h:=Lib.run_append_grow_zeros w (ρ.t 24) (ρ.t 3) ty (ρ.t 9) inf z .i64 .i64 l.t24 l.t3 hi hz (aj (ad p.blk p.off)) i p.cap oO hold (p.n+m-i) (by omega) (by omega) (by omega) (by omega) (by omega) (by rw[X3];exact growslice_fits hgo h1);rw[X3,hGd,<-harr]at h;rw[Qz];exact h
    have sarr:arr.size=i*p.sz+(p.n+m-i)*p.sz+(G-(p.n+m))*p.sz:=by rw[harr];simp only[Array.size_append,TE,size_zeroCells,N_,FX]
    have e3:(p.n+m-i)*p.sz=p.n*p.sz+m*p.sz-i*p.sz:=by rw[t_,dc]
    have e4:G*p.sz=(p.n*p.sz+m*p.sz)+(G-(p.n+m))*p.sz:=by rw[<-dc,<-dc];congr 1;omega
    have hbw:p.blk<w.heap.size:=hb.lt;have hb0:nq (w.drew.alloc (.cells arr (ρ.t 9))) w.heap.size arr:=nq.alloc w.drew arr _;have Lu:i*p.sz+news.length<=arr.size:=by rw[sarr,hv];omega
    have hb1:=hb0.setRow (new:=dY arr (i*p.sz) news) (eS Lu);have Jr:(i+m)*p.sz+tail.length<=(dY arr (i*p.sz) news).size:=by rw[eS Lu,sarr,htl];omega
    have hb2w:b2<w.heap.size:=by
     have h0:0<news.length:=by rw[hv];omega
     exact block_lt_of_cell (hcell 0 _ (eI h0))
    have oldc:∀b o,b<w.heap.size->(w.drew.alloc (.cells arr (ρ.t 9))).cell? (ad b o)=w.cell? (ad b o):=λb o hbl=>tE (heap_alloc_old w.drew _ hbl);have c1:∀ty,(gj #[ρ.t 24,ρ.t 24] ty #[.slice (aj ⟨w.heap.size,i*p.sz,ao⟩) (p.n+m-i) (G-i), .slice (aj (ad b2 o2)) m vc]).run P (w.drew.alloc (.cells arr (ρ.t 9)))= .ok (goInt m) ((w.drew.alloc (.cells arr (ρ.t 9))).setRow w.heap.size (dY arr (i*p.sz) news)):=λty=>
     run_copyG (P:=P) l.t24 l.z9 (first_of hv (λj u hj=>by rw[oldc _ _ hb2w];exact hcell j u hj)) n2 hb0 Lu vO
    have c2:∀ty,(gj #[ρ.t 24,ρ.t 24] ty #[.slice (aj ⟨w.heap.size,(i+m)*p.sz,ao⟩) (p.n+m-(i+m)) (G-(i+m)), .slice (aj ⟨p.blk,p.off+i*p.sz,ao⟩) (p.n-i) (p.cap-i)]).run P ((w.drew.alloc (.cells arr (ρ.t 9))).setRow w.heap.size (dY arr (i*p.sz) news)).drew= .ok (goInt ((p.n-i:aG):az)) (((w.drew.alloc (.cells arr (ρ.t 9))).setRow w.heap.size (dY arr (i*p.sz) news)).drew.setRow w.heap.size (dY (dY arr (i*p.sz) news) ((i+m)*p.sz) tail)):=λty=>
     run_copyG (P:=P) (w:=((w.drew.alloc (.cells arr (ρ.t 9))).setRow w.heap.size (dY arr (i*p.sz) news)).drew) l.t24 l.z9 (first_of htl (λj u hj=>by
      have jF:j<(p.n-i)*p.sz:=by rw[<-htl];exact(aU.1 hj).1
      rw[htg j jF]at hj;show((w.drew.alloc (.cells arr (ρ.t 9))).setRow w.heap.size (dY arr (i*p.sz) news)).cell? (ad p.blk (p.off+i*p.sz+j))=aj u;rw[cell_setRow_other (by omega),oldc _ _ hbw];exact(hb.cell _).trans hj)) n3 (blk_drew hb1) Jr ht1
    have hcal:=grow l w _ _ _ _ _ p.blk p.off w.heap.size p.n p.cap G i m vc (aj (ad b2 o2)) jG hm QC hgo h2 hG hG2 a1 c1 c2;refine⟨⟨aq,w.heap.size,0,G,p.n+m,p.sz⟩,((w.drew.alloc (.cells arr (ρ.t 9))).setRow w.heap.size (dY arr (i*p.sz) news)).drew.setRow w.heap.size (dY (dY arr (i*p.sz) news) ((i+m)*p.sz) tail),⟨rfl,rfl,λh=>(by cases h),λ_=> ?_,λ_=> .inr rfl,λb N4 Js=> ?_,by simp[kV],rfl,rfl,rfl⟩,by rw[eP rfl];exact hcal⟩
    ·refine⟨_,nq.setRow (w:=((w.drew.alloc (.cells arr (ρ.t 9))).setRow w.heap.size (dY arr (i*p.sz) news)).drew) (blk_drew hb1) (eS Jr),hG,hG2,by rw[eS Jr,eS Lu,sarr];show 0+G*p.sz<=_;omega,λk u hk hu=> ?_,λk hk=> ?_,λk u hk hu=> ?_⟩
     ·show(dY (dY arr (i*p.sz) news) ((i+m)*p.sz) tail)[0+k]? =aj u;rw[bT,gd Jr,bM (by omega),gd Lu,bM (by omega),harr,Ms,CL (by simp[FX];omega),gU,hog k hk,<-hb.cell];exact hu
     ·show(dY (dY arr (i*p.sz) news) ((i+m)*p.sz) tail)[0+i*p.sz+k]? =news[k]?;rw[bT,gd Jr,bM (by omega),gd Lu,bC (by rw[hv];omega)];congr 1;omega
     ·show(dY (dY arr (i*p.sz) news) ((i+m)*p.sz) tail)[0+(i+m)*p.sz+k]? =aj u;rw[bT,gd Jr,bC (by rw[htl];omega),show(i+m)*p.sz+k-(i+m)*p.sz=k by omega,htg k hk,<-hb.cell];exact hu
    ·have hbne:b≠w.heap.size:=by omega
     rw[setRow_other _ _ b _ hbne];show((w.drew.alloc (.cells arr (ρ.t 9))).setRow w.heap.size (dY arr (i*p.sz) news)).heap[b]? =_;rw[setRow_other _ _ b _ hbne,heap_alloc_old w.drew _ N4];rfl
end
end Go.FG.Ins

namespace Go.FG.Ins
open Go Go.Shelf Go.RowKit Go.Lib Go.Proofs
abbrev ofTab(T:Tab):fF:={toTab:=T,call:=λ_ _=>ao,om:=λ_ _=> .nat,mode:=λ_ _=>aq,keep:=λ_=>[],tk:=λ_=>false}
theorem holdsK{T:Tab}{w:bF}{K:aG->Prop}{v:bg}{e:aG}{ys:aW}(h:cZ T w K v (.l e ys))(h0:ys≠[]){b o n c:aG}(hv:v= .slice (aj (ad b o)) n c):K b:=by
 cases h with
 |nl=>exact cq rfl h0
 |l e xs b' o' c' S_ U ht hc hm hK hs hcell gQ=>cases hv;exact hK
def zQ(e bytes:aG):aA eV->aC (aY×dP)
 |[.v aq [.ow e1 ak xs], .v aq [.i .i64 i], .v aq [.sh e2 ys]]=>bif bA e1 e&&bA e2 e then
  aj (decide (0<=i)&&decide (i<=(xs.length:az))&&cK (xs.length+ys.length) bytes,⟨[.v aq [.ow e ak (Pu.xS xs i.toNat ys)]],[]⟩)else ao
 |_=>ao
theorem insR_get{xs ys:aW}{i:aG}(h:i<=xs.length)(k:aG)(y:aA CV)(hk:(Pu.xS xs i ys)[k]? =aj y):
  (k<i/\xs[k]? =aj y)\/(i<=k/\k<i+ys.length/\ys[k-i]? =aj y)\/(i+ys.length<=k/\xs[k-ys.length]? =aj y):=by
 unfold Pu.xS at hk;have hl:(xs.take i).length=i:=by simp;omega
 by_cases h1:k<i
 ·rw[cj,dj (by omega),dV,bC h1]at hk;exact .inl ⟨h1,hk⟩
 ·by_cases h2:k<i+ys.length
  ·rw[cj,c6 (by omega),hl,dj (by omega)]at hk;exact .inr (.inl ⟨by omega,h2,hk⟩)
  ·rw[c6 (by simp;omega),dM]at hk;refine .inr (.inr ⟨by omega, ?_⟩);rw[<-hk];congr 1;simp;omega
theorem oe{P:cR}{t:aG}{d:TypeDesc}(h:P.underlying t=aj d)(hb:qT d=ak)(w:bF):(Go.isAgg t).run P w= .ok aq w:=by simp only[Go.isAgg,cg,run_underlying h,bB];cases d<;>simp_all [qT]
theorem LV{P:cR}{T:Tab}(hE:eg P T){t:aG}{ti:TI}(h:T.ty t=aj ti)(w:bF):(sizeOf t).run P w= .ok ti.ks.length w:=by obtain⟨inf,hi,hs,_⟩:=hE.info t ti h;simp only[sizeOf,typeInfo,program,cg,mI,bB,hi,hs,cM]
section
variable {P:cR} {ρ:Ren} {nm:String} {T:Tab}
theorem Ds{e:aG}{te:TI}(he:T.ty e=aj te)(hρ:ρ.t 9=e)(hp:plain te.ks=ak)(hE:eg P T)(l:L P ρ nm te.ks.length)
  (M8:∀args w,(callFunc (ρ.f 29) args).run P w=((gC #[ρ.t 24,ρ.t 24] #[ρ.t 4] args).run P w).andThen λv w'=> .ok (.value v) w')
  (hfn:∃fn,P.funcs[ρ.f 22]? =aj fn/\fn.body.isSome=ak/\(fn.name== "runtime.NumGoroutine")=aq):cF P T (ρ.f 22) (zQ e te.bytes):=by
 have uS:JI te.ks=true:=bn.2 λk hk=>by have:=bn.1 hp k hk;cases k<;>simp_all
 obtain⟨inf,hi,fX,hby,kH,hzz⟩:=hE.info e te he;obtain⟨z,hz,hzc,_⟩:=hzz uS;have N_:z.cells.size=te.ks.length:=by rw[hzc];simp
 intro args r h w c1 vs b8 hs hv;refine⟨hfn, ?_⟩
 unfold zQ at h;split at h
 ·rename_i e1 xs i e2 ys;cases hb:(bA e1 e&&bA e2 e)with
  |false=>rw[hb]at h;cases h
  |true=>
   rw[hb,ay]at h;simp only[aK]at hb;have:=aX hb.1;subst this;have:=aX hb.2;subst this;have h:=aF h;obtain⟨hc,rfl⟩:=bU h;simp only[aK,bf,cK]at hc;obtain⟨⟨c0,c2⟩,c3,c4⟩:=hc;obtain⟨v0,g0,s0⟩:=hv 0 _ rfl;obtain⟨v1,g1,s1⟩:=hv 1 _ rfl;obtain⟨v2,g2,s2⟩:=hv 2 _ rfl;have QK:vs= #[v0,v1,v2]:=by
    have h3:vs.size=3:=hs;apply Array.ext_getElem?;intro k;match k with
    |0=>rw[g0];rfl
    |1=>rw[g1];rfl
    |2=>rw[g2];rfl
    |k+3=>rw[FK (by omega),FK (by simp)]
   subst QK;have s0:v0=lh (c1.P (dO 0 0)):=s0;have s1:v1= .int .i64 i:=s1;have s2:cZ T w c1.K v2 (.l e2 ys):=s2;subst s0;subst s1;have mn:inj [.v aq [.ow e2 ak xs], .v aq [.i .i64 i], .v aq [.sh e2 ys]] (cX (dO 0 0))= .o (.row e2 ak xs):=rfl;obtain⟨⟨ti,ht,E0,ma⟩,fW,Ha⟩:=b8.obj _ _ mn;have hti:ti=te:=aF (ht.symm.trans he);subst hti;generalize hpd:c1.P (dO 0 0)=p at fW E0;have pre:Pre w p:=⟨λh=>by have:=fW.nil h;exact⟨by rw[fW.n,this.1];rfl,this.2⟩,λh=>by obtain⟨vals,q1,q2,q3,q4,_⟩:=fW.mem h;exact⟨vals,q1,q2,q3,q4⟩⟩
   obtain⟨n,rfl⟩:∃n:aG,i=(n:az):=⟨i.toNat,by omega⟩
   have hnx:n<=xs.length:=by omega
   have Cz:=yu (E:=ofTab T) he s2;have Hj:∀y∈ys,y.length=ti.ks.length:=λy hy=>by rw[<-Cz.2 y hy];simp
   have U7:∀y∈xs,y.length=ti.ks.length:=λy hy=>by rw[<-ma y hy];simp
   obtain⟨B,vc,news,Lw,n1,n2,n3⟩:=Cz.1.list Hj;have cellOf:∀k,k<ys.length*ti.ks.length->∃y x,ys[k/ti.ks.length]? =aj y/\y[k%ti.ks.length]? =aj x/\k/ti.ks.length*ti.ks.length+k%ti.ks.length=k:=by
    intro k hk;have h1:k/ti.ks.length<ys.length:=by rw[wA kH];exact hk
    have h2:k%ti.ks.length<ys[k/ti.ks.length].length:=by rw[Hj _ (bD h1)];exact BV _ kH
    refine⟨_,_,eI h1,eI h2, ?_⟩
    have:=H9 k ti.ks.length;rw[CS]at this;exact this
   have vO:∀v∈news,v.oneCell'=true:=λv hv=>by
    obtain⟨k,hk⟩:=bZ hv;have Ig:k<ys.length*ti.ks.length:=by rw[<-n1];exact(aU.1 hk).1
    obtain⟨y,x,q1,q2,q3⟩:=cellOf k Ig;obtain⟨u,hu,hr⟩:=n3 _ _ _ _ q1 q2;rw[q3,hk]at hu;cases hu;exact cZ.one (E:=ofTab T) hr
   have hKne:∀b,c1.K b->p.nil=aq->b≠p.blk:=λb hk hn he=>by exact b8.kk _ _ p.blk mn (.inl ⟨by rw[hpd];exact hn,by rw[hpd]⟩) (he▸hk)
   have hB:ys.length=0\/∃b2 o2,B=aj (ad b2 o2)/\(p.nil=aq->b2≠p.blk)/\∀j u,news[j]? =aj u->w.cell? (ad b2 (o2+j))=aj u:=by
    rcases n2 with rfl|⟨b2,o2,rfl,hc2⟩
    ·exact .inl rfl
    ·by_cases h0:ys=[]
     ·subst h0;exact .inl rfl
     ·refine .inr ⟨b2,o2,rfl,λhn=> ?_,hc2⟩;exact hKne _ (holdsK s2 h0 Lw) hn
   have xrel:∀(k:aG) (y:aA CV) (j:aG) (x:CV),p.nil=aq->xs[k]? =aj y->y[j]? =aj x->∃u,w.cell? (ad p.blk (p.off+k*p.sz+j))=aj u/\Sc u x:=by intro k y j x hn hk hj;obtain⟨vals,q1,q2,q3,q4,q5⟩:=fW.mem hn;obtain⟨u,hu,hr⟩:=q5 k y j x hk hj;rw[bC rfl]at hr;exact⟨u,by rw[q1.cell];exact hu,tw (E:=ofTab T) hr (gX hp (ma y (aQ hk)) hj)⟩
   have hone2:∀vals k v,p.nil=aq->nq w p.blk vals->k<p.n*p.sz->vals[p.off+k]? =aj v->v.oneCell'=true:=by
    intro vals k v hn hbv hk hkv;rw[E0]at hk;have h1:k/ti.ks.length<xs.length:=by rw[wA kH,<-fW.n];exact hk
    have h2:k%ti.ks.length<xs[k/ti.ks.length].length:=by rw[U7 _ (bD h1)];exact BV _ kH
    obtain⟨u,hu,hsc⟩:=xrel _ _ _ _ hn (eI h1) (eI h2);have:=H9 k ti.ks.length;rw[CS]at this;rw[E0,show p.off+k/ti.ks.length*ti.ks.length+k%ti.ks.length=p.off+k by omega,hbv.cell,hkv]at hu;cases hu;rw[hsc.1];exact HV
   rw[Lw];obtain⟨p',w',hI,hcal⟩:=insert_run (P:=P) (sz:=ti.ks.length) l (by rw[hρ];exact hi) hz N_ fX kH M8 E0 pre (i:=n) (m:=ys.length) (vc:=vc) (by rw[fW.n];exact hnx) n1 hB vO (by rw[fW.n,hby];exact c3) (by rw[fW.n];exact c4) (λvals k v h1 h2 h3 h4=>hone2 vals k v h1 h2 (by rw[E0];exact h3) h4);refine hcal.mono ?_;intro e1 w2 hh;rw[hh.1,hh.2];show PK T _ _ c1 w (lh p') w';rw[dA];generalize hzd:Pu.xS xs n ys=zs;have Jx:zs.length=xs.length+ys.length:=by rw[<-hzd];unfold Pu.xS;simp;omega
   have hzg:∀(k:aG) (y:aA CV),zs[k]? =aj y->(k<n/\xs[k]? =aj y)\/(n<=k/\k<n+ys.length/\ys[k-n]? =aj y)\/(n+ys.length<=k/\xs[k-ys.length]? =aj y):=λk y hk=>insR_get hnx k y (by rw[hzd];exact hk);have hzsh:∀y∈zs,y.map CV.kd=ti.ks:=λy hy=>by
    obtain⟨k,hk⟩:=bZ hy;rcases hzg k y hk with ⟨_,h⟩|⟨_,_,h⟩|⟨_,h⟩
    ·exact ma y (aQ h)
    ·exact Cz.2 y (aQ h)
    ·exact ma y (aQ h)
   have hzp:∀(k:aG) (y:aA CV) (j:aG) (x:CV),zs[k]? =aj y->y[j]? =aj x->s8 x=false:=λk y j x hk hj=>gX hp (hzsh y (aQ hk)) hj;let c3:eO:=⟨λm=>if m=dO 500 0 then p' else c1.P m,λm=>if m=dO 500 0 then(λ_ _=>⟨ak,0,0,0,0,0⟩)else c1.G m,c1.K⟩
   have hP3:c3.P (dO 500 0)=p':=by simp[c3]
   have hG3:c3.G (dO 500 0)=λ_ _=>⟨ak,0,0,0,0,0⟩:=by simp[c3]
   have hO:∀m o,nO [.v aq [.ow e2 ak xs], .v aq [.i .i64 n], .v aq [.sh e2 ys]] ⟨[.v aq [.ow e2 ak zs]],[]⟩ (cX m)= .o o->m=dO 500 0/\o= .row e2 ak zs:=by intro m o ho;have hm:=nh ho (by simp);simp[JW,JO,uf,sq,Dq,Bp,sF]at hm;exact⟨jE hm.1,hm.2⟩
   have hX:nO [.v aq [.ow e2 ak xs], .v aq [.i .i64 n], .v aq [.sh e2 ys]] ⟨[.v aq [.ow e2 ak zs]],[]⟩ (cX (dO 500 0))= .o (.row e2 ak zs):=rfl;have Bi:∀i j,¬fZ zs i j:=by rintro i j ⟨y,x,h1,h2,h3⟩;rw[hzp i y j x h1 h2]at h3;cases h3
   have noInnX:∀i j,¬fZ xs i j:=by rintro i j ⟨y,x,h1,h2,h3⟩;rw[gX hp (ma y (aQ h1)) h2]at h3;cases h3
   have G9:∀b,fu c3 (dO 500 0) (.row e2 ak zs) b->p'.nil=aq/\b=p'.blk:=by
    rintro b (⟨h1,h2⟩|⟨_,i,j,h,_⟩)
    ·rw[hP3]at h1 h2;exact⟨h1,h2⟩
    ·exact cq h (Bi i j)
   have hOwn1:p.nil=aq->vj (inj [.v aq [.ow e2 ak xs], .v aq [.i .i64 n], .v aq [.sh e2 ys]]) c1 p.blk:=λhn=>⟨_,_,mn, .inl ⟨by rw[hpd];exact hn,by rw[hpd]⟩⟩
   have xR:p'.nil=aq->p'.blk=w.heap.size\/vj (inj [.v aq [.ow e2 ak xs], .v aq [.i .i64 n], .v aq [.sh e2 ys]]) c1 p'.blk:=λhn=>by
    rcases hI.blk hn with ⟨q1,q2⟩|q
    ·rw[q2];exact .inr (hOwn1 q1)
    ·exact .inl q
   have hKp:∀b,c1.K b->¬(p'.nil=aq/\b=p'.blk):=by
    rintro b hk ⟨hn,rfl⟩;rcases xR hn with h|h
    ·have:=b8.lt _ hk;omega
    ·exact b8.HB h hk
   refine⟨c3,⟨?_, ?_, ?_, ?_, ?_⟩,⟨hI.os,hI.tape,hI.output,hI.size,λb hb=>hb, ?_, ?_,λb hb=> .inl hb⟩, ?_, ?_⟩
   ·intro m o ho;obtain⟨rfl,rfl⟩:=hO m o ho;refine⟨⟨ti,he,by rw[hP3,hI.sz,E0],hzsh⟩, ?_,λ_=>⟨λi j h=>cq h (Bi i j),λi j i' j' h=>cq h (Bi i j)⟩⟩
    rw[hP3];refine⟨by rw[hI.n,fW.n,Jx],λhn=> ?_,λhn=> ?_⟩
    ·obtain⟨q1,q2,q3⟩:=hI.nil hn;rw[fW.n]at q2;exact⟨fV (by omega),q1⟩
    ·obtain⟨iN,q1,q2,q3,q4,q5,q6,q7⟩:=hI.mem hn;refine⟨iN,q1,q2,q3,q4,λk y j x hk hj=> ?_⟩
     simp only[if_true];have hnl:=hzp k y j x hk hj;have jF:j<ti.ks.length:=by rw[<-hzsh y (aQ hk),bQ];exact(aU.1 hj).1
     have fin:∀u:bg,Sc u x->iN[p'.off+k*p'.sz+j]? =aj u->∃u:bg,iN[p'.off+k*p'.sz+j]? =aj u/\XC T w' (c3.G (dO 500 0)) k j u x:=λu h1 h2=>⟨u,h2,tu (E:=ofTab T) hnl h1⟩
     have pnil:∀(k:aG) (y:aA CV),xs[k]? =aj y->p.nil=false:=λk y h=>by
      cases hq:p.nil with
      |false=>rfl
      |true=>have hx:=(fW.nil hq).1;subst hx;cases h
     rw[hI.sz]at fin⊢;rcases hzg k y hk with ⟨r1,r2⟩|⟨r1,r2,r3⟩|⟨r1,r2⟩
     ·obtain⟨u,hu,hsc⟩:=xrel k y j x (pnil k y r2) r2 hj;have hb1:k*p.sz+j<n*p.sz:=by have:=b7 p.sz (show k+1<=n from r1);rw[dc]at this;rw[E0]at this⊢;omega
      refine fin u hsc ?_;rw[lB];exact q5 _ u hb1 (by rw[<-lB];exact hu)
     ·obtain⟨u,hu,hr⟩:=n3 (k-n) y j x r3 hj;have hb1:(k-n)*p.sz+j<ys.length*p.sz:=by have:=b7 p.sz (show k-n+1<=ys.length by omega);rw[dc]at this;rw[E0]at this⊢;omega
      refine fin u (oM (E:=ofTab T) hr hnl) ?_;have:=q6 _ hb1;rw[E0]at this⊢;rw[hu,<-lB,t_]at this;have hmn:n*ti.ks.length<=k*ti.ks.length:=b7 _ r1;rw[<-this];congr 1;omega
     ·obtain⟨u,hu,hsc⟩:=xrel (k-ys.length) y j x (pnil _ y r2) r2 hj;have hkx:k-ys.length<xs.length:=(aU.1 r2).1;have hb1:(k-(n+ys.length))*p.sz+j<(p.n-n)*p.sz:=by have:=b7 p.sz (show k-(n+ys.length)+1<=p.n-n by rw[fW.n];omega);rw[dc]at this;rw[E0]at this⊢;omega
      refine fin u hsc ?_;have:=q7 _ u hb1;rw[E0]at this hu⊢;have m1:(n+ys.length)*ti.ks.length<=k*ti.ks.length:=b7 _ r1;have e1:(k-(n+ys.length))*ti.ks.length=k*ti.ks.length-(n+ys.length)*ti.ks.length:=t_ _ _ _;have e2:(k-ys.length)*ti.ks.length=k*ti.ks.length-ys.length*ti.ks.length:=t_ _ _ _;have e3:(n+ys.length)*ti.ks.length=n*ti.ks.length+ys.length*ti.ks.length:=dc _ _ _;rw[e1]at this;rw[e2]at hu;have:=this (by rw[<-hu];congr 2;omega);rw[<-this];congr 1;omega
   ·intro m o m' o' b h1 h2 _ _;obtain⟨rfl,_⟩:=hO m o h1;obtain⟨rfl,_⟩:=hO m' o' h2;rfl
   ·intro m o b h1 h2 h3;obtain⟨rfl,rfl⟩:=hO m o h1;exact hKp b h3 (G9 b h2)
   ·intro b hb;exact jd (b8.lt b hb) hI.size
   ·intro m bs h1;obtain⟨_,h2⟩:=hO m _ h1;cases h2
   ·intro b hb Js;refine hI.old b hb (λhn he=> ?_);subst he;rcases xR hn with h|h
    ·omega
    ·exact Js h
   ·rintro b ⟨m,o,h1,h2⟩;obtain⟨rfl,rfl⟩:=hO m o h1;obtain⟨q1,rfl⟩:=G9 b h2;rcases xR q1 with h|h
    ·exact .inr (by omega)
    ·exact .inl h
   ·intro m hm;have:m≠dO 500 0:=by rintro rfl;apply hm;rfl
    exact⟨bM this,bM this⟩
   ·show pM T w' c3 aq [.own (dO 500 0)] (lh p');show lh p'=lh (c3.P (dO 500 0));rw[hP3]
 ·cases h
end
end Go.FG.Ins

