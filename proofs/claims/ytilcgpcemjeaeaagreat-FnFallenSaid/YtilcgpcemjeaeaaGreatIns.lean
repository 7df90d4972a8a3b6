/- slices.Insert at elements of plain cells, over any program that bears its text: a call of it does what is told. No condition but those that are stated. -/
import Derived.Test.YtilcgpcemjeaeaaGreatLib
import Derived.Shelf.Bodies2
import Derived.Shelf.RegionOpenPlain
import Derived.WalkKit
import Derived.Lib.Walk
import Derived.Lib.SliceRun
import Derived.Lib.JoinLaws
import Derived.Lib.AppendZeros
import Derived.Lib.Overlaps
import Derived.Laws.Externs
import Derived.Laws.IdiomCopy
import Derived.Lib.AppendZerosOnto
set_option linter.unusedVariables false
set_option linter.unusedSimpArgs false
set_option maxRecDepth 100000
open Array renaming length_toList->dS,getElem?_toList->cZ,getElem?_eq_some_iff->dV,append_assoc->OE,getElem?_append_left->Ei,getElem?_eq_none->HL
open Bool renaming true->ai,false->ak,and_eq_true->aL
open Go renaming Program->c6,World->bL,Oper->fD,Operand->dz,Value->bk,TypeInfo->Kl
open Go.Act renaming eval->H5,put->Wb
open Go.Builtin renaming copy_->gC,append_->ix,firstCells->fC,lenOf->pG,zeroCells->fO
open Go.Extern.SlicesOverlaps renaming overlaps->fJ
open Go.IntKind renaming i64->ao,wrap_i64->qg
open Go.Lib renaming wpList_append_run->uh
open Go.Oper renaming wp->OJ
open Go.Region renaming wanted->vk
open Go.Result renaming andThen_ok->bG
open Go.Sem renaming run_bind->cm,run_pure->cU,run->nv
open Go.Value renaming bool->Dp
open Go.World renaming cell?_of_block->uT,setRow->lH
open Int renaming toNat_natCast->dH
open List renaming map_toArray->DE,map_cons->fE,map_nil->BU,length_take->eD,length_drop->iE,getElem?_take->ea,getElem?_drop->dR,getElem?_of_mem->bY,getElem?_eq_some_iff->aT,getElem?_eq_getElem->eW,size_toArray->Wi,getElem?_toArray->ij,append_assoc->cB,getElem?_append_left->dI,getElem?_append_right->db,all_eq_true->bu,getElem_mem->bC,mem_of_getElem?->aR,eq_nil_of_length_eq_zero->gf,length_map->bU
open Nat renaming min->R4,le_refl->cG,eq_zero_or_pos->Dq,add_zero->yT,mul_le_mul_right->b8,add_mul->dq,sub_mul->vm,min_def->MH,add_assoc->l_,zero_add->bV,beq->bD,eq_of_beq_eq_true->aU,div_lt_iff_lt_mul->yE,mod_lt->Ds,div_add_mod->J4,mul_comm->Et,lt_of_lt_of_le->jw
open Option renaming some->ah,none->aj
open Option.some renaming inj->aJ
open Prod.mk renaming inj->bW
open _root_ renaming Nat->aF,Array->dv,List->aA,if_pos->bz,Option->az,Int->aw,if_neg->bH,absurd->cK,Bool->aX,cond_true->au,decide_eq_true_eq->bf
namespace Go.FG.Ins
open Go Go.Shelf Go.RowKit Go.Lib Go.Proofs
structure L (P:c6) (ρ:Ren) (nm:String) (sz:aF):Prop where
 mixed:P.follows .mixedOrders=ai
 f22:P.funcs[ρ.f 22]? =ah {Body2.n22 ρ with name:=nm}
 t3:P.underlying (ρ.t 3)=ah (TypeDesc.int ao)
 a3:∀w,(Go.isAgg (ρ.t 3)).run P w= .ok ak w
 t4:P.underlying (ρ.t 4)=ah (TypeDesc.bool)
 a4:∀w,(Go.isAgg (ρ.t 4)).run P w= .ok ak w
 t24:P.underlying (ρ.t 24)=ah (TypeDesc.slice (ρ.t 9))
 a24:∀w,(Go.isAgg (ρ.t 24)).run P w= .ok ak w
 z9:∀w,(Go.sizeOf (ρ.t 9)).run P w= .ok sz w
variable {P:c6} {ρ:Ren} {nm:String} {sz:aF}
theorem wpList_copy(w:bL){ops:dv fD}{rest:aA fD}{o:fD}{a:Act}{Q:Exit->Act->bL->Prop}(hgd:o.guard=aj)(d s:dz)(t t':TypeId)
  (ho:o.op= .call {callee:= .builtin .copy,args:= #[d,s],argTypes:= #[t,t']}) (v u:bk) (hd:a.eval d=v) (hs:a.eval s=u) {v':bk} {w':bL}
  (hr:(gC #[t,t'] o.type #[v,u]).run P w= .ok v' w') (h:wpList P ops Q rest (a.put o.dst v') w'):wpList P ops Q (o::rest) a w:=
 wpList_plain hgd λ_ hK=>by
  unfold OJ execOp;simp only[ho,resolve,invoke,builtin,cm,cU,bG,DE,fE,BU,hd,hs,hr];exact hK _ _ h
theorem step_copy{ops:dv fD}{o:fD}{a:Act}{w:bL}{K:Act->bL->Prop}{Q:Exit->Act->bL->Prop}{E:Prop}
  (hg:o.guard=aj) (d x:dz) (dT sT:TypeId) (XQ:o.op=Op.call {callee:=Callee.builtin Builtin.copy,args:= #[d,x],argTypes:= #[dT,sT]})
  (v u:bk) (hd:a.eval d=v) (hx:a.eval x=u) {v':bk} {w':bL} (hr:(gC #[dT,sT] o.type #[v,u]).run P w= .ok v' w') (hK:K (a.put o.dst v') w'):
  if vk o (yielded ops a.tmps)=ai then OJ P o a w K Q else E:=by
 have hw:vk o (yielded ops a.tmps)=true:=by simp[vk,hg]
 rw[bz hw];unfold OJ;simp[execOp,XQ,resolve,invoke,builtin,hd,hx,hr,Result.andThen];exact hK
set_option maxHeartbeats 4000000 in
set_option maxRecDepth 100000 in
theorem zero(l:L P ρ nm sz)(w:bL)(A B:az Addr)(n c i vc:aF)(hi:i<=n)(hn:n<=9223372036854775807)(hA:A=aj/\n=0\/∃b o,A=ah ⟨b,o,aj⟩):
  Calls P (ρ.f 22) #[.slice A n c, .int .i64 i, .slice B 0 vc] w λe w'=>e= .returned (.slice A n c)/\w'=w:=by
 have t3:=l.t3;have a3:=l.a3;have t4:=l.t4;have a4:=l.a4;have t24:=l.t24;have a24:=l.a24;have z9:=l.z9;have u3:=run_underlying l.t3;have u4:=run_underlying l.t4;have u24:=run_underlying l.t24;have hb1:(0:aw)<=(i:aw):=by omega
 have E2:(i:aw)<=(n:aw):=by omega
 go_enter l.f22,Body2.n22_ntmps ρ;rcases hA with ⟨rfl,rfl⟩|⟨b,o,rfl⟩
 ·obtain rfl:i=0:=by omega
  go_wp2;go_ret;exact⟨rfl,rfl⟩
 ·go_wp2;all_goals (go_ret;exact⟨rfl,rfl⟩)
set_option maxHeartbeats 4000000 in
set_option maxRecDepth 100000 in
theorem atEnd(l:L P ρ nm sz)(w w1:bL)(A B:az Addr)(n c m vc:aF)(r:bk)(hm:0<m)(hn:n<=9223372036854775807)(hA:A=aj/\n=0\/∃b o,A=ah ⟨b,o,aj⟩)
  (h1:∀ty,(ix #[ρ.t 24,ρ.t 24] ty #[.slice A n c, .slice B m vc]).run P w= .ok r w1):
  Calls P (ρ.f 22) #[.slice A n c, .int .i64 n, .slice B m vc] w λe w'=>e= .returned r/\w'=w1:=by
 have t3:=l.t3;have a3:=l.a3;have t4:=l.t4;have a4:=l.a4;have t24:=l.t24;have a24:=l.a24;have z9:=l.z9;have u3:=run_underlying l.t3;have u4:=run_underlying l.t4;have u24:=run_underlying l.t24;have J8:¬((m:aw)=0):=by omega
 go_enter l.f22,Body2.n22_ntmps ρ;rcases hA with ⟨rfl,rfl⟩|⟨b,o,rfl⟩
 ·go_wp2_with (at_builtin;refine uh _ rfl _ _ _ _ rfl _ _ rfl rfl _ _ (h1 _) ?_)
  go_ret;exact⟨rfl,rfl⟩
 ·go_wp2_with (at_builtin;refine uh _ rfl _ _ _ _ rfl _ _ rfl rfl _ _ (h1 _) ?_)
  all_goals (go_ret;exact⟨rfl,rfl⟩)
set_option maxHeartbeats 4000000 in
set_option maxRecDepth 100000 in
theorem shift(l:L P ρ nm sz)(w w1 w2:bL)(x1 x2:bk)(b o n c i m vc:aF)(B:az Addr)(hi:i<n)(hm:0<m)(hroom:n+m<=c)(hc63:c<=9223372036854775807)
  (Py:∀lb cb,(callFunc (ρ.f 29) #[.slice B m vc, .slice (ah ⟨b,o+(i+m)*sz,aj⟩) lb cb]).run P w= .ok (.value (.bool ak)) w)
  (h1:∀ty,(gC #[ρ.t 24,ρ.t 24] ty #[.slice (ah ⟨b,o+(i+m)*sz,aj⟩) (n+m-(i+m)) (c-(i+m)), .slice (ah ⟨b,o+i*sz,aj⟩) (n+m-i) (c-i)]).run P w.drew= .ok x1 w1)
  (h2:∀ty,(gC #[ρ.t 24,ρ.t 24] ty #[.slice (ah ⟨b,o+i*sz,aj⟩) (n+m-i) (c-i), .slice B m vc]).run P w1= .ok x2 w2):
  Calls P (ρ.f 22) #[.slice (ah ⟨b,o,aj⟩) n c, .int .i64 i, .slice B m vc] w λe w'=>e= .returned (.slice (ah ⟨b,o,aj⟩) (n+m) c)/\w'=w2:=by
 have t3:=l.t3;have a3:=l.a3;have t4:=l.t4;have a4:=l.a4;have t24:=l.t24;have a24:=l.a24;have z9:=l.z9;have u3:=run_underlying l.t3;have u4:=run_underlying l.t4;have u24:=run_underlying l.t24;have J8:¬((m:aw)=0):=by omega
 have D6:¬((i:aw)=(n:aw)):=by omega
 have mixed:=l.mixed;have hw1:ao.wrap ((i:aw)+(m:aw))=(i:aw)+(m:aw):=by rw[qg];omega
 have hb1:(0:aw)<=(i:aw)+(m:aw):=by omega
 have gh:i<=n:=by omega
 have htn:((i:aw)+(m:aw)).toNat=i+m:=by omega
 have E2:¬(c=i+m):=by omega
 have hb3:(i:aw)<=(n:aw)+(m:aw):=by omega
 have hb4:¬(c=i):=by omega
 go_enter l.f22,Body2.n22_ntmps ρ;go_wp2_with (simp only[Py])
 go_region_law_o (refine step_copy rfl _ _ (ρ.t 24) (ρ.t 24) rfl _ _ (by simp[H5,Wb]) (by simp[H5,Wb]) (h1 _) ?_);go_wp2_with (at_builtin;refine wpList_copy _ rfl _ _ (ρ.t 24) (ρ.t 24) rfl _ _ rfl rfl (h2 _) ?_)
 go_ret;exact⟨rfl,rfl⟩
set_option maxHeartbeats 4000000 in
set_option maxRecDepth 100000 in
theorem grow(l:L P ρ nm sz)(w w1 w2 w3:bL)(x2 x3:bk)(b o b' n c c' i m vc:aF)(B:az Addr)(hi:i<n)(hm:0<m)(SX:n<=c)(hroom:c<n+m)(tF:n+m<=9223372036854775807)(I7:n+m<=c')(hc63:c'<=9223372036854775807)
  (h1:∀ty,(ix #[ρ.t 24,ρ.t 3] ty #[.slice (ah ⟨b,o,aj⟩) i c, .int .i64 ((n:aw)+(m:aw)-(i:aw))]).run P w= .ok (.slice (ah ⟨b',0,aj⟩) (n+m) c') w1)
  (h2:∀ty,(gC #[ρ.t 24,ρ.t 24] ty #[.slice (ah ⟨b',i*sz,aj⟩) (n+m-i) (c'-i), .slice B m vc]).run P w1= .ok x2 w2)
  (h3:∀ty,(gC #[ρ.t 24,ρ.t 24] ty #[.slice (ah ⟨b',(i+m)*sz,aj⟩) (n+m-(i+m)) (c'-(i+m)), .slice (ah ⟨b,o+i*sz,aj⟩) (n-i) (c-i)]).run P w2.drew= .ok x3 w3):
  Calls P (ρ.f 22) #[.slice (ah ⟨b,o,aj⟩) n c, .int .i64 i, .slice B m vc] w λe w'=>e= .returned (.slice (ah ⟨b',0,aj⟩) (n+m) c')/\w'=w3:=by
 have t3:=l.t3;have a3:=l.a3;have t4:=l.t4;have a4:=l.a4;have t24:=l.t24;have a24:=l.a24;have z9:=l.z9;have u3:=run_underlying l.t3;have u4:=run_underlying l.t4;have u24:=run_underlying l.t24;have J8:¬((m:aw)=0):=by omega
 have D6:¬((i:aw)=(n:aw)):=by omega
 have hz3:(c:aw)<(n:aw)+(m:aw):=by omega
 have mixed:=l.mixed;have hw0:ao.wrap ((n:aw)+(m:aw))=(n:aw)+(m:aw):=by rw[qg];omega
 have hw2:ao.wrap ((n:aw)+(m:aw)-(i:aw))=(n:aw)+(m:aw)-(i:aw):=by rw[qg];omega
 have hw1:ao.wrap ((i:aw)+(m:aw))=(i:aw)+(m:aw):=by rw[qg];omega
 have hb1:(0:aw)<=(i:aw)+(m:aw):=by omega
 have gh:i<=n:=by omega
 have htn:((i:aw)+(m:aw)).toNat=i+m:=by omega
 have hGi:¬(c'=i):=by omega
 have hGim:¬(c'=i+m):=by omega
 have hci:¬(c=i):=by omega
 have hic:i<=c:=by omega
 have hb3:(i:aw)<=(n:aw):=by omega
 have hb4:(i:aw)<=(n:aw)+(m:aw):=by omega
 go_enter l.f22,Body2.n22_ntmps ρ
 go_wp2_with (first
  |(at_builtin;refine uh _ rfl _ _ _ _ rfl _ _ rfl rfl _ _ (h1 _) ?_)
  |(at_builtin;refine wpList_copy _ rfl _ _ (ρ.t 24) (ρ.t 24) rfl _ _ rfl rfl (h2 _) ?_))
 go_region_law_o (refine step_copy rfl _ _ (ρ.t 24) (ρ.t 24) rfl (.slice (ah ⟨b',(i+m)*sz,aj⟩) (n+m-(i+m)) (c'-(i+m))) (.slice (ah ⟨b,o+i*sz,aj⟩) (n-i) (c-i)) (by simp[H5,Wb]) (by simp[H5,Wb]) (h3 (ρ.t 3)) ?_);go_wp2;go_ret;exact⟨rfl,rfl⟩
end Go.FG.Ins

namespace Go.FG.Ins
open Go Go.Shelf Go.RowKit Go.Lib Go.Proofs
section
variable {P:c6}
theorem run_copyG{w:bL}{dT sT ty elem sz b o dLen dCap sLen sCap m:aF}{B:az Addr}{cs:aA bk}{cur:dv bk}(hu:P.underlying dT=ah (.slice elem))(hs:∀w,(sizeOf elem).run P w= .ok sz w)
  (hf:(fC sz m (.slice B sLen sCap)).run P w= .ok cs.toArray w) (hm:R4 sLen dLen=m) (hb:nZ w b cur) (hl:o+cs.length<=cur.size) (h1:∀v∈cs,v.oneCell'=ai):
  (gC #[dT,sT] ty #[.slice (ah (ad b o)) dLen dCap, .slice B sLen sCap]).run P w= .ok (goInt m) (w.setRow b (eh cur o cs)):=by have Lb:=nM (P:=P) w hb hl h1;have xH:min sLen dLen=m:=hm;simp[gC,run_underlying hu,pG,hs,xH,hf,Lb]
theorem blk_drew{w:bL}{b:aF}{cur:dv bk}(h:nZ w b cur):nZ w.drew b cur:=h
theorem cell_setRow_other{w:bL}{b b2 o:aF}{new:dv bk}(h:b2≠b):(w.setRow b new).cell? (ad b2 o)=w.cell? (ad b2 o):=uT (setRow_other w b b2 _ h)
structure Insd (w w':bL) (p p':Pl) (i m:aF) (news:aA bk):Prop where
 n:p'.n=p.n+m
 sz:p'.sz=p.sz
 nil:p'.nil=ai->p'.cap=0/\p.n=0/\m=0
 mem:p'.nil=ak->∃jc,nZ w' p'.blk jc/\p'.n<=p'.cap/\p'.cap<=maxLen/\p'.off+p'.cap*p'.sz<=jc.size/\
  (∀k u,k<i*p.sz->w.cell? (ad p.blk (p.off+k))=ah u->jc[p'.off+k]? =ah u)/\(∀k,k<m*p.sz->jc[p'.off+i*p.sz+k]? =news[k]?)/\
  (∀k u,k<(p.n-i)*p.sz->w.cell? (ad p.blk (p.off+i*p.sz+k))=ah u->jc[p'.off+(i+m)*p.sz+k]? =ah u)
 blk:p'.nil=ak->(p.nil=ak/\p'.blk=p.blk)\/p'.blk=w.heap.size
 old:∀b,b<w.heap.size->(p'.nil=ak->b≠p'.blk)->w'.heap[b]? =w.heap[b]?
 size:w.heap.size<=w'.heap.size
 os:w'.os=w.os
 tape:w'.tape=w.tape
 output:w'.output=w.output
structure Pre (w:bL) (p:Pl):Prop where
 nil:p.nil=ai->p.n=0/\p.cap=0
 mem:p.nil=ak->∃vals,nZ w p.blk vals/\p.n<=p.cap/\p.cap<=maxLen/\p.off+p.cap*p.sz<=vals.size
variable {ρ:Ren} {nm:String}
theorem overlaps_false{w:bL}{tS tR e:TypeId}(ht:P.underlying tS=ah (.slice e)){size:aF}(hz:∀w,(Go.sizeOf e).run P w= .ok size w){B:az Addr}{m vc b o:aF}{vals:dv bk}(hb:nZ w b vals)(ho:o<vals.size)
  (hB:∀a,B=ah a->0<m->a.block≠b/\∃t k,w.shape? a.block=ah (t,k+1)) (lb cb:aF):
  (fJ #[tS,tS] #[tR] #[.slice B m vc, .slice (ah (ad b o)) lb cb]).run P w= .ok (.bool ak) w:=by
 obtain⟨t,fr,hg,Ai⟩:=hb;have hsb:w.shape? b=ah (t,vals.size):=by simp[World.shape?,hg]
 have f1:w.frozen? ⟨b,o,aj⟩=false:=by have:=Ai o (by omega);simpa [World.frozen?,hg]using this
 have f2:w.frozen? ⟨b,vals.size,aj⟩=false:=by have:=Ai vals.size (cG _);simpa [World.frozen?,hg]using this
 have hne0:vals.size≠0:=by omega
 change nv P (α:=bk) (do
  let ah t:=(#[tS,tS]:dv TypeId)[0]? |stuck "slices.overlaps: no parameter types"
  let .slice elem<-underlying t|stuck "slices.overlaps: slice type expected"
  let size<-sizeOf elem
  match B,(ah (ad b o):az Addr)with
  |some a,ah b=>
   if m=0\/lb=0\/size=0 then pure (Dp ak)
   else if a.block !=b.block&&(<-frozen a)&&(<-frozen b)then unsupported .addressObserved
   else do
    if a.block !=b.block then do
     noView a;noView b
     if<-mayBeOne a b then return Dp ((<-choose (.extern "sameAddr.stringBytes" 2))==1)
    pure (Dp (a.block==b.block&&a.off<b.off+lb*size&&b.off<a.off+m*size))
  |_,_=>pure (Dp ak)) w=_
 cases B with
 |none=>simp[run_underlying ht,hz]
 |some a=>
  by_cases h0:m=0\/lb=0\/size=0
  ·simp[run_underlying ht,hz,h0]
  ·have hm:0<m:=by omega
   obtain⟨iA,ta,k,hsa⟩:=hB a rfl hm;have K_:(a.block !=b)=true:=by simpa using iA
   have hnb':(a.block==b)=false:=by simpa using iA
   obtain⟨n,hn⟩:∃n,vals.size=n+1:=⟨vals.size-1,by omega⟩
   rw[hn]at hsb f2;simp[run_underlying ht,hz,h0,K_,hnb',iA,frozen,noView,viewAt,mayBeOne,stringish,shape,nv,hsa,hsb,f1,f2]
theorem first_of{w:bL}{sz m b o len cap:aF}{cs:aA bk}(hl:cs.length=m*sz)(h:∀j u,cs[j]? =ah u->w.cell? (ad b (o+j))=ah u):(fC sz m (.slice (ah (ad b o)) len cap)).run P w= .ok cs.toArray w:=
 run_firstCells_some w sz m _ _ _ cs hl (λj v hj=>by rw[Addr.n9];exact h j v hj)
theorem insert_run{sz:aF}(l:L P ρ nm sz){inf:Kl}{z:bk}(hi:P.info? (ρ.t 9)=ah inf)(hz:inf.zero=ah z)(QE:z.cells.size=sz)(gi:inf.size=sz)(lj:0<sz)
  (Py:∀args w,(callFunc (ρ.f 29) args).run P w=((fJ #[ρ.t 24,ρ.t 24] #[ρ.t 4] args).run P w).andThen λv w'=> .ok (.value v) w')
  {w:bL} {p:Pl} (hp:p.sz=sz) (pre:Pre w p) {i m vc:aF} {B:az Addr} {news:aA bk} (gh:i<=p.n) (hv:news.length=m*sz) (hB:m=0\/∃b2 o2,B=ah (ad b2 o2)/\(p.nil=ak->b2≠p.blk)/\∀j u,news[j]? =ah u->w.cell? (ad b2 (o2+j))=ah u)
  (xI:∀v∈news,v.oneCell'=ai) (h1:(p.n+m)*inf.bytes<=140737488355328) (h2:p.n+m<=9223372036854775807) (hone2:∀vals k v,p.nil=ak->nZ w p.blk vals->k<p.n*sz->vals[p.off+k]? =ah v->v.oneCell'=ai):
  ∃p' w',Insd w w' p p' i m news/\Calls P (ρ.f 22) #[lT p, .int .i64 i, .slice B m vc] w (λe w2=>e= .returned (lT p')/\w2=w'):=by
 subst hp;have hnm:p.n<=9223372036854775807:=by omega
 rcases Dq m with rfl|hm
 ·refine⟨p,w,⟨rfl,rfl,λh=>⟨(pre.nil h).2,(pre.nil h).1,rfl⟩,λh=> ?_,λh=> .inl ⟨h,rfl⟩,λ_ _ _=>rfl,cG _,rfl,rfl,rfl⟩, ?_⟩
  ·obtain⟨vals,hb,q1,q2,q3⟩:=pre.mem h;refine⟨vals,hb,q1,q2,q3,λk u _ hu=>by rw[<-hb.cell];exact hu,λk hk=>by simp at hk,λk u _ hu=> ?_⟩
   rw[<-hb.cell,yT];exact hu
  ·cases hq:p.nil with
   |true=>have h0:=(pre.nil hq).1;rw[nK hq];have:=zero l w aj B 0 0 i vc (by omega) (by omega) (.inl ⟨rfl,rfl⟩);exact this
   |false=>rw[fc hq];exact zero l w _ B p.n p.cap i vc gh hnm (.inr ⟨_,_,rfl⟩)
 ·obtain⟨b2,o2,rfl,E2,hcell⟩:=hB.resolve_left (by omega);by_cases hend:i=p.n
  ·subst hend;have happ:App P w (ρ.t 24) (.slice (ah (ad b2 o2)) m vc) z.cells p.sz m news:=by refine⟨.inl ⟨.inl ⟨_,l.t24⟩,by simp[pG],first_of hv hcell,first_of (w:=w.drew) hv hcell⟩,hv,xI⟩
   obtain⟨p',w',hr,hA⟩:=tV (P:=P) (w:=w) (t:=ρ.t 24) (u:=ρ.t 24) (ty:=0) (p:=p) l.t24 hi hz QE gi (λh=>(pre.nil h).1) pre.mem happ h1 h2;refine⟨p',w',⟨hA.n,hA.sz,hA.nil,λh=> ?_,hA.blk,hA.old,hA.size,hA.os,hA.tape,hA.output⟩, ?_⟩
   ·obtain⟨jc,q1,q2,q3,q4,q5,q6⟩:=hA.mem h;exact⟨jc,q1,q2,q3,q4,q5,q6,λk u hk _=>by simp at hk⟩
   ·have D1:∀ty,(ix #[ρ.t 24,ρ.t 24] ty #[lT p, .slice (ah (ad b2 o2)) m vc]).run P w= .ok (lT p') w':=λty=>hr;cases hq:p.nil with
    |true=>have h0:=(pre.nil hq).1;rw[nK hq]at D1⊢;have:=atEnd l w w' aj (ah (ad b2 o2)) 0 0 m vc (lT p') hm (by omega) (.inl ⟨rfl,rfl⟩) D1;rw[h0];exact this
    |false=>rw[fc hq]at D1⊢;exact atEnd l w w' _ (ah (ad b2 o2)) p.n p.cap m vc (lT p') hm hnm (.inr ⟨_,_,rfl⟩) D1
  ·have jB:i<p.n:=by omega
   have hq:p.nil=false:=by
    cases h:p.nil with
    |false=>rfl
    |true=>have:=(pre.nil h).1;omega
   obtain⟨vals,hb,SX,XK,mI⟩:=pre.mem hq;have iA:=E2 hq;rw[fc hq];have m1:i*p.sz<=p.n*p.sz:=b8 _ gh;have m2:p.n*p.sz<=p.cap*p.sz:=b8 _ SX;have e1:(i+m)*p.sz=i*p.sz+m*p.sz:=dq _ _ _;have e2:(p.n-i)*p.sz=p.n*p.sz-i*p.sz:=vm _ _ _;have m0:i*p.sz+p.sz<=p.n*p.sz:=by have:=b8 p.sz (show i+1<=p.n by omega);rwa[dq,Nat.one_mul]at this
   have hp0:p.sz<=m*p.sz:=Nat.le_mul_of_pos_left _ hm;have n1:R4 (p.n+m-i) (p.n+m-(i+m))=p.n-i:=by simp only[MH];split<;>omega
   have n2:R4 m (p.n+m-i)=m:=by simp only[MH];split<;>omega
   have n3:R4 (p.n-i) (p.n+m-(i+m))=p.n-i:=by simp only[MH];split<;>omega
   let tail:=(vals.toList.drop (p.off+i*p.sz)).take ((p.n-i)*p.sz);have htl:tail.length=(p.n-i)*p.sz:=by simp only[tail,eD,iE,dS];omega
   have htg:∀k,k<(p.n-i)*p.sz->tail[k]? =vals[p.off+i*p.sz+k]? :=λk hk=>by simp only[tail,ea,bz hk,dR,cZ]
   have ht1:∀v∈tail,v.oneCell'=true:=λv hv=>by
    obtain⟨k,hk⟩:=bY hv;have D0:k<(p.n-i)*p.sz:=by rw[<-htl];exact(aT.1 hk).1
    rw[htg k D0]at hk;exact hone2 vals (i*p.sz+k) v hq hb (by omega) (by rw[<-l_];exact hk)
   by_cases hroom:p.n+m<=p.cap
   ·-- in place
    have m3:(p.n+m)*p.sz<=p.cap*p.sz:=b8 _ hroom;rw[dq]at m3;have Nw:p.off+(i+m)*p.sz+tail.length<=vals.size:=by rw[htl];omega
    have hb1:nZ (w.drew.setRow p.blk (eh vals (p.off+(i+m)*p.sz) tail)) p.blk (eh vals (p.off+(i+m)*p.sz) tail):=nZ.setRow (w:=w.drew) (blk_drew hb) (fj Nw);have E4:p.off+i*p.sz+news.length<=(eh vals (p.off+(i+m)*p.sz) tail).size:=by rw[fj Nw,hv];omega
    have c1:∀ty,(gC #[ρ.t 24,ρ.t 24] ty #[.slice (ah ⟨p.blk,p.off+(i+m)*p.sz,aj⟩) (p.n+m-(i+m)) (p.cap-(i+m)), .slice (ah ⟨p.blk,p.off+i*p.sz,aj⟩) (p.n+m-i) (p.cap-i)]).run P w.drew= .ok (goInt ((p.n-i:aF):aw)) (w.drew.setRow p.blk (eh vals (p.off+(i+m)*p.sz) tail)):=λty=>
     run_copyG (P:=P) (w:=w.drew) l.t24 l.z9 (first_of (w:=w.drew) htl (λj u hj=>by
      have j7:j<(p.n-i)*p.sz:=by rw[<-htl];exact(aT.1 hj).1
      rw[htg j j7]at hj;exact(hb.cell _).trans hj)) n1 (blk_drew hb) Nw ht1
    have c2:∀ty,(gC #[ρ.t 24,ρ.t 24] ty #[.slice (ah ⟨p.blk,p.off+i*p.sz,aj⟩) (p.n+m-i) (p.cap-i), .slice (ah (ad b2 o2)) m vc]).run P (w.drew.setRow p.blk (eh vals (p.off+(i+m)*p.sz) tail))= .ok (goInt m) ((w.drew.setRow p.blk (eh vals (p.off+(i+m)*p.sz) tail)).setRow p.blk (eh (eh vals (p.off+(i+m)*p.sz) tail) (p.off+i*p.sz) news)):=λty=>
     run_copyG (P:=P) l.t24 l.z9 (first_of hv (λj u hj=>by rw[cell_setRow_other iA];exact hcell j u hj)) n2 hb1 E4 xI
    have hcal:=shift l w _ _ _ _ p.blk p.off p.n p.cap i m vc (ah (ad b2 o2)) jB hm hroom XK (λlb cb=>by
     rw[Py,overlaps_false (P:=P) (w:=w) l.t24 l.z9 hb (o:=p.off+(i+m)*p.sz) (by omega) (λa ha _=>by
      cases ha;have h0:0<news.length:=by rw[hv];omega
      have:=hcell 0 _ (eW h0);refine⟨iA, ?_⟩
      unfold World.cell? at this;unfold World.shape?;split at this
      ·rename_i cc tt ff hg;rw[hg];simp at this;obtain⟨hlt2,_⟩:=dV.1 this;exact⟨tt,cc.size-1,by simp;omega⟩
      ·cases this) lb cb]
     rfl) c1 c2
    refine⟨⟨ak,p.blk,p.off,p.cap,p.n+m,p.sz⟩,(w.drew.setRow p.blk (eh vals (p.off+(i+m)*p.sz) tail)).setRow p.blk (eh (eh vals (p.off+(i+m)*p.sz) tail) (p.off+i*p.sz) news),⟨rfl,rfl,λh=>(by cases h),λ_=> ?_,λ_=> .inl ⟨hq,rfl⟩,λb Qz K_=> ?_,by simp[lH],rfl,rfl,rfl⟩,by rw[fc rfl];exact hcal⟩
    ·refine⟨_,hb1.setRow (fj E4),hroom,XK,by rw[fj E4,fj Nw];exact mI,λk u hk hu=> ?_,λk hk=> ?_,λk u hk hu=> ?_⟩
     ·show(eh (eh vals (p.off+(i+m)*p.sz) tail) (p.off+i*p.sz) news)[p.off+k]? =ah u;rw[gq E4,bH (by omega),gq Nw,bH (by omega),<-hb.cell];exact hu
     ·show(eh (eh vals (p.off+(i+m)*p.sz) tail) (p.off+i*p.sz) news)[p.off+i*p.sz+k]? =news[k]?;rw[gq E4,bz (by rw[hv];omega)];congr 1;omega
     ·show(eh (eh vals (p.off+(i+m)*p.sz) tail) (p.off+i*p.sz) news)[p.off+(i+m)*p.sz+k]? =ah u;rw[gq E4,bH (by rw[hv];omega),gq Nw,bz (by rw[htl];omega),show p.off+(i+m)*p.sz+k-(p.off+(i+m)*p.sz)=k by omega,htg k hk,<-hb.cell];exact hu
    ·have hbne:b≠p.blk:=K_ rfl;rw[setRow_other _ _ b _ hbne,setRow_other _ _ b _ hbne];rfl
   ·-- a new row
    have hgo:p.cap<p.n+m:=by omega
    let pB:=(vals.toList.drop p.off).take (i*p.sz);have E5:pB.length=i*p.sz:=by simp only[pB,eD,iE,dS];omega
    have hog:∀k,k<i*p.sz->pB[k]? =vals[p.off+k]? :=λk hk=>by simp only[pB,ea,bz hk,dR,cZ]
    have Wu:i+(p.n+m-i)=p.n+m:=by omega
    have SU:(p.n:aw)+(m:aw)-(i:aw)=((p.n+m-i:aF):aw):=by omega
    have hold:(fC inf.size i (.slice (ah (ad p.blk p.off)) i p.cap)).run P w.drew= .ok pB.toArray w.drew:=by
     rw[gi];exact first_of (w:=w.drew) E5 (λj u hj=>by
      have j7:j<i*p.sz:=by rw[<-E5];exact(aT.1 hj).1
      rw[hog j j7]at hj;exact(hb.cell _).trans hj)
    have hG:=grownCap_ge w (p.n+m) p.cap (ρ.t 9);have hG2:=grownCap_le_maxLen w (p.n+m) p.cap (ρ.t 9) (by unfold maxLen;omega);generalize hGd:grownCap w (p.n+m) p.cap (ρ.t 9)=G at hG hG2;obtain⟨arr,harr⟩:∃arr:dv bk,arr=pB.toArray++fO z.cells (p.n+m-i)++fO z.cells (G-(p.n+m)):=⟨_,rfl⟩
    have a1:∀ty,(ix #[ρ.t 24,ρ.t 3] ty #[.slice (ah ⟨p.blk,p.off,aj⟩) i p.cap, .int .i64 ((p.n:aw)+(m:aw)-(i:aw))]).run P w= .ok (.slice (ah ⟨w.heap.size,0,aj⟩) (p.n+m) G) (w.drew.alloc (.cells arr (ρ.t 9))):=λty=>by have hmb:(p.n+m-i)*inf.bytes<=(p.n+m)*inf.bytes:=b8 _ (by omega);have h:=Lib.run_append_grow_zeros w (ρ.t 24) (ρ.t 3) ty (ρ.t 9) inf z .i64 .i64 l.t24 l.t3 hi hz (ah (ad p.blk p.off)) i p.cap pB hold (p.n+m-i) (by omega) (by omega) (by omega) (by omega) (by omega) (by rw[Wu];exact growslice_fits hgo h1);rw[Wu,hGd,<-harr]at h;rw[SU];exact h
    have sarr:arr.size=i*p.sz+(p.n+m-i)*p.sz+(G-(p.n+m))*p.sz:=by rw[harr];simp only[Array.size_append,Wi,size_zeroCells,QE,E5]
    have e3:(p.n+m-i)*p.sz=p.n*p.sz+m*p.sz-i*p.sz:=by rw[vm,dq]
    have e4:G*p.sz=(p.n*p.sz+m*p.sz)+(G-(p.n+m))*p.sz:=by rw[<-dq,<-dq];congr 1;omega
    have hbw:p.blk<w.heap.size:=hb.lt;have hb0:nZ (w.drew.alloc (.cells arr (ρ.t 9))) w.heap.size arr:=nZ.alloc w.drew arr _;have Nw:i*p.sz+news.length<=arr.size:=by rw[sarr,hv];omega
    have hb1:=hb0.setRow (new:=eh arr (i*p.sz) news) (fj Nw);have E4:(i+m)*p.sz+tail.length<=(eh arr (i*p.sz) news).size:=by rw[fj Nw,sarr,htl];omega
    have hb2w:b2<w.heap.size:=by
     have h0:0<news.length:=by rw[hv];omega
     exact block_lt_of_cell (hcell 0 _ (eW h0))
    have oldc:∀b o,b<w.heap.size->(w.drew.alloc (.cells arr (ρ.t 9))).cell? (ad b o)=w.cell? (ad b o):=λb o hbl=>uT (heap_alloc_old w.drew _ hbl);have c1:∀ty,(gC #[ρ.t 24,ρ.t 24] ty #[.slice (ah ⟨w.heap.size,i*p.sz,aj⟩) (p.n+m-i) (G-i), .slice (ah (ad b2 o2)) m vc]).run P (w.drew.alloc (.cells arr (ρ.t 9)))= .ok (goInt m) ((w.drew.alloc (.cells arr (ρ.t 9))).setRow w.heap.size (eh arr (i*p.sz) news)):=λty=>
     run_copyG (P:=P) l.t24 l.z9 (first_of hv (λj u hj=>by rw[oldc _ _ hb2w];exact hcell j u hj)) n2 hb0 Nw xI
    have c2:∀ty,(gC #[ρ.t 24,ρ.t 24] ty #[.slice (ah ⟨w.heap.size,(i+m)*p.sz,aj⟩) (p.n+m-(i+m)) (G-(i+m)), .slice (ah ⟨p.blk,p.off+i*p.sz,aj⟩) (p.n-i) (p.cap-i)]).run P ((w.drew.alloc (.cells arr (ρ.t 9))).setRow w.heap.size (eh arr (i*p.sz) news)).drew= .ok (goInt ((p.n-i:aF):aw)) (((w.drew.alloc (.cells arr (ρ.t 9))).setRow w.heap.size (eh arr (i*p.sz) news)).drew.setRow w.heap.size (eh (eh arr (i*p.sz) news) ((i+m)*p.sz) tail)):=λty=>
     run_copyG (P:=P) (w:=((w.drew.alloc (.cells arr (ρ.t 9))).setRow w.heap.size (eh arr (i*p.sz) news)).drew) l.t24 l.z9 (first_of htl (λj u hj=>by
      have j7:j<(p.n-i)*p.sz:=by rw[<-htl];exact(aT.1 hj).1
      rw[htg j j7]at hj;show((w.drew.alloc (.cells arr (ρ.t 9))).setRow w.heap.size (eh arr (i*p.sz) news)).cell? (ad p.blk (p.off+i*p.sz+j))=ah u;rw[cell_setRow_other (by omega),oldc _ _ hbw];exact(hb.cell _).trans hj)) n3 (blk_drew hb1) E4 ht1
    have hcal:=grow l w _ _ _ _ _ p.blk p.off w.heap.size p.n p.cap G i m vc (ah (ad b2 o2)) jB hm SX hgo h2 hG hG2 a1 c1 c2;refine⟨⟨ak,w.heap.size,0,G,p.n+m,p.sz⟩,((w.drew.alloc (.cells arr (ρ.t 9))).setRow w.heap.size (eh arr (i*p.sz) news)).drew.setRow w.heap.size (eh (eh arr (i*p.sz) news) ((i+m)*p.sz) tail),⟨rfl,rfl,λh=>(by cases h),λ_=> ?_,λ_=> .inr rfl,λb Qz K_=> ?_,by simp[lH],rfl,rfl,rfl⟩,by rw[fc rfl];exact hcal⟩
    ·refine⟨_,nZ.setRow (w:=((w.drew.alloc (.cells arr (ρ.t 9))).setRow w.heap.size (eh arr (i*p.sz) news)).drew) (blk_drew hb1) (fj E4),hG,hG2,by rw[fj E4,fj Nw,sarr];show 0+G*p.sz<=_;omega,λk u hk hu=> ?_,λk hk=> ?_,λk u hk hu=> ?_⟩
     ·show(eh (eh arr (i*p.sz) news) ((i+m)*p.sz) tail)[0+k]? =ah u;rw[bV,gq E4,bH (by omega),gq Nw,bH (by omega),harr,OE,Ei (by simp[E5];omega),ij,hog k hk,<-hb.cell];exact hu
     ·show(eh (eh arr (i*p.sz) news) ((i+m)*p.sz) tail)[0+i*p.sz+k]? =news[k]?;rw[bV,gq E4,bH (by omega),gq Nw,bz (by rw[hv];omega)];congr 1;omega
     ·show(eh (eh arr (i*p.sz) news) ((i+m)*p.sz) tail)[0+(i+m)*p.sz+k]? =ah u;rw[bV,gq E4,bz (by rw[htl];omega),show(i+m)*p.sz+k-(i+m)*p.sz=k by omega,htg k hk,<-hb.cell];exact hu
    ·have hbne:b≠w.heap.size:=by omega
     rw[setRow_other _ _ b _ hbne];show((w.drew.alloc (.cells arr (ρ.t 9))).setRow w.heap.size (eh arr (i*p.sz) news)).heap[b]? =_;rw[setRow_other _ _ b _ hbne,heap_alloc_old w.drew _ Qz];rfl
end
end Go.FG.Ins

namespace Go.FG.Ins
open Go Go.Shelf Go.RowKit Go.Lib Go.Proofs
abbrev ofTab(T:Tab):fS:={toTab:=T,call:=λ_ _=>aj,om:=λ_ _=> .nat,mode:=λ_ _=>ak,keep:=λ_=>[],tk:=λ_=>false}
theorem holdsK{T:Tab}{w:bL}{K:aF->Prop}{v:bk}{e:aF}{ys:aQ}(h:da T w K v (.l e ys))(h0:ys≠[]){b o n c:aF}(hv:v= .slice (ah (ad b o)) n c):K b:=by
 cases h with
 |nl=>exact cK rfl h0
 |l e xs b' o' c' VR U ht hc hm hK hs hcell gh=>cases hv;exact hK
def xK(e bytes:aF):aA fy->az (aX×dB)
 |[.v ak [.ow e1 ai xs], .v ak [.i .i64 i], .v ak [.sh e2 ys]]=>bif bD e1 e&&bD e2 e then
  ah (decide (0<=i)&&decide (i<=(xs.length:aw))&&cy (xs.length+ys.length) bytes,⟨[.v ak [.ow e ai (Pu.tI xs i.toNat ys)]],[]⟩)else aj
 |_=>aj
theorem insR_get{xs ys:aQ}{i:aF}(h:i<=xs.length)(k:aF)(y:aA CV)(hk:(Pu.tI xs i ys)[k]? =ah y):
  (k<i/\xs[k]? =ah y)\/(i<=k/\k<i+ys.length/\ys[k-i]? =ah y)\/(i+ys.length<=k/\xs[k-ys.length]? =ah y):=by
 unfold Pu.tI at hk;have hl:(xs.take i).length=i:=by simp;omega
 by_cases h1:k<i
 ·rw[cB,dI (by omega),ea,bz h1]at hk;exact .inl ⟨h1,hk⟩
 ·by_cases h2:k<i+ys.length
  ·rw[cB,db (by omega),hl,dI (by omega)]at hk;exact .inr (.inl ⟨by omega,h2,hk⟩)
  ·rw[db (by simp;omega),dR]at hk;refine .inr (.inr ⟨by omega, ?_⟩);rw[<-hk];congr 1;simp;omega
theorem lh{P:c6}{t:aF}{d:TypeDesc}(h:P.underlying t=ah d)(hb:rV d=ai)(w:bL):(Go.isAgg t).run P w= .ok ak w:=by simp only[Go.isAgg,cm,run_underlying h,bG];cases d<;>simp_all [rV]
theorem Hz{P:c6}{T:Tab}(hE:eH P T){t:aF}{ti:TI}(h:T.ty t=ah ti)(w:bL):(sizeOf t).run P w= .ok ti.ks.length w:=by obtain⟨inf,hi,hs,_⟩:=hE.info t ti h;simp only[sizeOf,typeInfo,program,cm,nv,bG,hi,hs,cU]
section
variable {P:c6} {ρ:Ren} {nm:String} {T:Tab}
theorem zC{e:aF}{te:TI}(he:T.ty e=ah te)(hρ:ρ.t 9=e)(hp:plain te.ks=ai)(hE:eH P T)(l:L P ρ nm te.ks.length)
  (Py:∀args w,(callFunc (ρ.f 29) args).run P w=((fJ #[ρ.t 24,ρ.t 24] #[ρ.t 4] args).run P w).andThen λv w'=> .ok (.value v) w')
  (hfn:∃fn,P.funcs[ρ.f 22]? =ah fn/\fn.body.isSome=ai/\(fn.name== "runtime.NumGoroutine")=ak):ca P T (ρ.f 22) (xK e te.bytes):=by
 have zA:Lu te.ks=true:=bu.2 λk hk=>by have:=bu.1 hp k hk;cases k<;>simp_all
 obtain⟨inf,hi,gi,hby,lj,hzz⟩:=hE.info e te he;obtain⟨z,hz,hzc,_⟩:=hzz zA;have QE:z.cells.size=te.ks.length:=by rw[hzc];simp
 intro args r h w c1 vs cg hs hv;refine⟨hfn, ?_⟩
 unfold xK at h;split at h
 ·rename_i e1 xs i e2 ys;cases hb:(bD e1 e&&bD e2 e)with
  |false=>rw[hb]at h;cases h
  |true=>
   rw[hb,au]at h;simp only[aL]at hb;have:=aU hb.1;subst this;have:=aU hb.2;subst this;have h:=aJ h;obtain⟨hc,rfl⟩:=bW h;simp only[aL,bf,cy]at hc;obtain⟨⟨c0,c2⟩,c3,c4⟩:=hc;obtain⟨v0,g0,s0⟩:=hv 0 _ rfl;obtain⟨v1,g1,s1⟩:=hv 1 _ rfl;obtain⟨v2,g2,s2⟩:=hv 2 _ rfl;have S6:vs= #[v0,v1,v2]:=by
    have h3:vs.size=3:=hs;apply Array.ext_getElem?;intro k;match k with
    |0=>rw[g0];rfl
    |1=>rw[g1];rfl
    |2=>rw[g2];rfl
    |k+3=>rw[HL (by omega),HL (by simp)]
   subst S6;have s0:v0=lT (c1.P (dU 0 0)):=s0;have s1:v1= .int .i64 i:=s1;have s2:da T w c1.K v2 (.l e2 ys):=s2;subst s0;subst s1;have mY:inj [.v ak [.ow e2 ai xs], .v ak [.i .i64 i], .v ak [.sh e2 ys]] (c9 (dU 0 0))= .o (.row e2 ai xs):=rfl;obtain⟨⟨ti,ht,G8,mN⟩,gg,Jb⟩:=cg.obj _ _ mY;have hti:ti=te:=aJ (ht.symm.trans he);subst hti;generalize hpd:c1.P (dU 0 0)=p at gg G8;have pre:Pre w p:=⟨λh=>by have:=gg.nil h;exact⟨by rw[gg.n,this.1];rfl,this.2⟩,λh=>by obtain⟨vals,q1,q2,q3,q4,_⟩:=gg.mem h;exact⟨vals,q1,q2,q3,q4⟩⟩
   obtain⟨n,rfl⟩:∃n:aF,i=(n:aw):=⟨i.toNat,by omega⟩
   have hnx:n<=xs.length:=by omega
   have D4:=zR (E:=ofTab T) he s2;have Jj:∀y∈ys,y.length=ti.ks.length:=λy hy=>by rw[<-D4.2 y hy];simp
   have X2:∀y∈xs,y.length=ti.ks.length:=λy hy=>by rw[<-mN y hy];simp
   obtain⟨B,vc,news,Ny,n1,n2,n3⟩:=D4.1.list Jj;have cellOf:∀k,k<ys.length*ti.ks.length->∃y x,ys[k/ti.ks.length]? =ah y/\y[k%ti.ks.length]? =ah x/\k/ti.ks.length*ti.ks.length+k%ti.ks.length=k:=by
    intro k hk;have h1:k/ti.ks.length<ys.length:=by rw[yE lj];exact hk
    have h2:k%ti.ks.length<ys[k/ti.ks.length].length:=by rw[Jj _ (bC h1)];exact Ds _ lj
    refine⟨_,_,eW h1,eW h2, ?_⟩
    have:=J4 k ti.ks.length;rw[Et]at this;exact this
   have xI:∀v∈news,v.oneCell'=true:=λv hv=>by
    obtain⟨k,hk⟩:=bY hv;have D0:k<ys.length*ti.ks.length:=by rw[<-n1];exact(aT.1 hk).1
    obtain⟨y,x,q1,q2,q3⟩:=cellOf k D0;obtain⟨u,hu,hr⟩:=n3 _ _ _ _ q1 q2;rw[q3,hk]at hu;cases hu;exact da.one (E:=ofTab T) hr
   have hKne:∀b,c1.K b->p.nil=ak->b≠p.blk:=λb hk hn he=>by exact cg.kk _ _ p.blk mY (.inl ⟨by rw[hpd];exact hn,by rw[hpd]⟩) (he▸hk)
   have hB:ys.length=0\/∃b2 o2,B=ah (ad b2 o2)/\(p.nil=ak->b2≠p.blk)/\∀j u,news[j]? =ah u->w.cell? (ad b2 (o2+j))=ah u:=by
    rcases n2 with rfl|⟨b2,o2,rfl,hc2⟩
    ·exact .inl rfl
    ·by_cases h0:ys=[]
     ·subst h0;exact .inl rfl
     ·refine .inr ⟨b2,o2,rfl,λhn=> ?_,hc2⟩;exact hKne _ (holdsK s2 h0 Ny) hn
   have xrel:∀(k:aF) (y:aA CV) (j:aF) (x:CV),p.nil=ak->xs[k]? =ah y->y[j]? =ah x->∃u,w.cell? (ad p.blk (p.off+k*p.sz+j))=ah u/\Sc u x:=by intro k y j x hn hk hj;obtain⟨vals,q1,q2,q3,q4,q5⟩:=gg.mem hn;obtain⟨u,hu,hr⟩:=q5 k y j x hk hj;rw[bz rfl]at hr;exact⟨u,by rw[q1.cell];exact hu,uO (E:=ofTab T) hr (iv hp (mN y (aR hk)) hj)⟩
   have hone2:∀vals k v,p.nil=ak->nZ w p.blk vals->k<p.n*p.sz->vals[p.off+k]? =ah v->v.oneCell'=true:=by
    intro vals k v hn hbv hk hkv;rw[G8]at hk;have h1:k/ti.ks.length<xs.length:=by rw[yE lj,<-gg.n];exact hk
    have h2:k%ti.ks.length<xs[k/ti.ks.length].length:=by rw[X2 _ (bC h1)];exact Ds _ lj
    obtain⟨u,hu,hsc⟩:=xrel _ _ _ _ hn (eW h1) (eW h2);have:=J4 k ti.ks.length;rw[Et]at this;rw[G8,show p.off+k/ti.ks.length*ti.ks.length+k%ti.ks.length=p.off+k by omega,hbv.cell,hkv]at hu;cases hu;rw[hsc.1];exact JS
   rw[Ny];obtain⟨p',w',hI,hcal⟩:=insert_run (P:=P) (sz:=ti.ks.length) l (by rw[hρ];exact hi) hz QE gi lj Py G8 pre (i:=n) (m:=ys.length) (vc:=vc) (by rw[gg.n];exact hnx) n1 hB xI (by rw[gg.n,hby];exact c3) (by rw[gg.n];exact c4) (λvals k v h1 h2 h3 h4=>hone2 vals k v h1 h2 (by rw[G8];exact h3) h4);refine hcal.mono ?_;intro e1 w2 hh;rw[hh.1,hh.2];show R5 T _ _ c1 w (lT p') w';rw[dH];generalize hzd:Pu.tI xs n ys=zs;have Le:zs.length=xs.length+ys.length:=by rw[<-hzd];unfold Pu.tI;simp;omega
   have hzg:∀(k:aF) (y:aA CV),zs[k]? =ah y->(k<n/\xs[k]? =ah y)\/(n<=k/\k<n+ys.length/\ys[k-n]? =ah y)\/(n+ys.length<=k/\xs[k-ys.length]? =ah y):=λk y hk=>insR_get hnx k y (by rw[hzd];exact hk);have hzsh:∀y∈zs,y.map CV.kd=ti.ks:=λy hy=>by
    obtain⟨k,hk⟩:=bY hy;rcases hzg k y hk with ⟨_,h⟩|⟨_,_,h⟩|⟨_,h⟩
    ·exact mN y (aR h)
    ·exact D4.2 y (aR h)
    ·exact mN y (aR h)
   have hzp:∀(k:aF) (y:aA CV) (j:aF) (x:CV),zs[k]? =ah y->y[j]? =ah x->uD x=false:=λk y j x hk hj=>iv hp (hzsh y (aR hk)) hj;let c3:e_:=⟨λm=>if m=dU 500 0 then p' else c1.P m,λm=>if m=dU 500 0 then(λ_ _=>⟨ai,0,0,0,0,0⟩)else c1.G m,c1.K⟩
   have hP3:c3.P (dU 500 0)=p':=by simp[c3]
   have hG3:c3.G (dU 500 0)=λ_ _=>⟨ai,0,0,0,0,0⟩:=by simp[c3]
   have hO:∀m o,oy [.v ak [.ow e2 ai xs], .v ak [.i .i64 n], .v ak [.sh e2 ys]] ⟨[.v ak [.ow e2 ai zs]],[]⟩ (c9 m)= .o o->m=dU 500 0/\o= .row e2 ai zs:=by intro m o ho;have hm:=nX ho (by simp);simp[LI,LB,vv,tG,E7,CQ,tP]at hm;exact⟨jZ hm.1,hm.2⟩
   have hX:oy [.v ak [.ow e2 ai xs], .v ak [.i .i64 n], .v ak [.sh e2 ys]] ⟨[.v ak [.ow e2 ai zs]],[]⟩ (c9 (dU 500 0))= .o (.row e2 ai zs):=rfl;have CK:∀i j,¬gk zs i j:=by rintro i j ⟨y,x,h1,h2,h3⟩;rw[hzp i y j x h1 h2]at h3;cases h3
   have noInnX:∀i j,¬gk xs i j:=by rintro i j ⟨y,x,h1,h2,h3⟩;rw[iv hp (mN y (aR h1)) h2]at h3;cases h3
   have I9:∀b,fM c3 (dU 500 0) (.row e2 ai zs) b->p'.nil=ak/\b=p'.blk:=by
    rintro b (⟨h1,h2⟩|⟨_,i,j,h,_⟩)
    ·rw[hP3]at h1 h2;exact⟨h1,h2⟩
    ·exact cK h (CK i j)
   have hOwn1:p.nil=ak->wI (inj [.v ak [.ow e2 ai xs], .v ak [.i .i64 n], .v ak [.sh e2 ys]]) c1 p.blk:=λhn=>⟨_,_,mY, .inl ⟨by rw[hpd];exact hn,by rw[hpd]⟩⟩
   have zy:p'.nil=ak->p'.blk=w.heap.size\/wI (inj [.v ak [.ow e2 ai xs], .v ak [.i .i64 n], .v ak [.sh e2 ys]]) c1 p'.blk:=λhn=>by
    rcases hI.blk hn with ⟨q1,q2⟩|q
    ·rw[q2];exact .inr (hOwn1 q1)
    ·exact .inl q
   have hKp:∀b,c1.K b->¬(p'.nil=ak/\b=p'.blk):=by
    rintro b hk ⟨hn,rfl⟩;rcases zy hn with h|h
    ·have:=cg.lt _ hk;omega
    ·exact cg.Jz h hk
   refine⟨c3,⟨?_, ?_, ?_, ?_, ?_⟩,⟨hI.os,hI.tape,hI.output,hI.size,λb hb=>hb, ?_, ?_,λb hb=> .inl hb⟩, ?_, ?_⟩
   ·intro m o ho;obtain⟨rfl,rfl⟩:=hO m o ho;refine⟨⟨ti,he,by rw[hP3,hI.sz,G8],hzsh⟩, ?_,λ_=>⟨λi j h=>cK h (CK i j),λi j i' j' h=>cK h (CK i j)⟩⟩
    rw[hP3];refine⟨by rw[hI.n,gg.n,Le],λhn=> ?_,λhn=> ?_⟩
    ·obtain⟨q1,q2,q3⟩:=hI.nil hn;rw[gg.n]at q2;exact⟨gf (by omega),q1⟩
    ·obtain⟨jc,q1,q2,q3,q4,q5,q6,q7⟩:=hI.mem hn;refine⟨jc,q1,q2,q3,q4,λk y j x hk hj=> ?_⟩
     simp only[if_true];have hnl:=hzp k y j x hk hj;have j7:j<ti.ks.length:=by rw[<-hzsh y (aR hk),bU];exact(aT.1 hj).1
     have fin:∀u:bk,Sc u x->jc[p'.off+k*p'.sz+j]? =ah u->∃u:bk,jc[p'.off+k*p'.sz+j]? =ah u/\XC T w' (c3.G (dU 500 0)) k j u x:=λu h1 h2=>⟨u,h2,uM (E:=ofTab T) hnl h1⟩
     have pnil:∀(k:aF) (y:aA CV),xs[k]? =ah y->p.nil=false:=λk y h=>by
      cases hq:p.nil with
      |false=>rfl
      |true=>have hx:=(gg.nil hq).1;subst hx;cases h
     rw[hI.sz]at fin⊢;rcases hzg k y hk with ⟨r1,r2⟩|⟨r1,r2,r3⟩|⟨r1,r2⟩
     ·obtain⟨u,hu,hsc⟩:=xrel k y j x (pnil k y r2) r2 hj;have hb1:k*p.sz+j<n*p.sz:=by have:=b8 p.sz (show k+1<=n from r1);rw[dq]at this;rw[G8]at this⊢;omega
      refine fin u hsc ?_;rw[l_];exact q5 _ u hb1 (by rw[<-l_];exact hu)
     ·obtain⟨u,hu,hr⟩:=n3 (k-n) y j x r3 hj;have hb1:(k-n)*p.sz+j<ys.length*p.sz:=by have:=b8 p.sz (show k-n+1<=ys.length by omega);rw[dq]at this;rw[G8]at this⊢;omega
      refine fin u (pA (E:=ofTab T) hr hnl) ?_;have:=q6 _ hb1;rw[G8]at this⊢;rw[hu,<-l_,vm]at this;have hmn:n*ti.ks.length<=k*ti.ks.length:=b8 _ r1;rw[<-this];congr 1;omega
     ·obtain⟨u,hu,hsc⟩:=xrel (k-ys.length) y j x (pnil _ y r2) r2 hj;have hkx:k-ys.length<xs.length:=(aT.1 r2).1;have hb1:(k-(n+ys.length))*p.sz+j<(p.n-n)*p.sz:=by have:=b8 p.sz (show k-(n+ys.length)+1<=p.n-n by rw[gg.n];omega);rw[dq]at this;rw[G8]at this⊢;omega
      refine fin u hsc ?_;have:=q7 _ u hb1;rw[G8]at this hu⊢;have m1:(n+ys.length)*ti.ks.length<=k*ti.ks.length:=b8 _ r1;have e1:(k-(n+ys.length))*ti.ks.length=k*ti.ks.length-(n+ys.length)*ti.ks.length:=vm _ _ _;have e2:(k-ys.length)*ti.ks.length=k*ti.ks.length-ys.length*ti.ks.length:=vm _ _ _;have e3:(n+ys.length)*ti.ks.length=n*ti.ks.length+ys.length*ti.ks.length:=dq _ _ _;rw[e1]at this;rw[e2]at hu;have:=this (by rw[<-hu];congr 2;omega);rw[<-this];congr 1;omega
   ·intro m o m' o' b h1 h2 _ _;obtain⟨rfl,_⟩:=hO m o h1;obtain⟨rfl,_⟩:=hO m' o' h2;rfl
   ·intro m o b h1 h2 h3;obtain⟨rfl,rfl⟩:=hO m o h1;exact hKp b h3 (I9 b h2)
   ·intro b hb;exact jw (cg.lt b hb) hI.size
   ·intro m bs h1;obtain⟨_,h2⟩:=hO m _ h1;cases h2
   ·intro b hb K_;refine hI.old b hb (λhn he=> ?_);subst he;rcases zy hn with h|h
    ·omega
    ·exact K_ h
   ·rintro b ⟨m,o,h1,h2⟩;obtain⟨rfl,rfl⟩:=hO m o h1;obtain⟨q1,rfl⟩:=I9 b h2;rcases zy q1 with h|h
    ·exact .inr (by omega)
    ·exact .inl h
   ·intro m hm;have:m≠dU 500 0:=by rintro rfl;apply hm;rfl
    exact⟨bH this,bH this⟩
   ·show qn T w' c3 ak [.own (dU 500 0)] (lT p');show lT p'=lT (c3.P (dU 500 0));rw[hP3]
 ·cases h
end
end Go.FG.Ins

