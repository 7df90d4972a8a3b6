/- slices.Insert at elements of plain cells, over any program that bears its text: a call of it does what is told. No condition but those that are stated. -/
import Derived.Test.YtilcgpcemjeaeaaGreatLib
import Derived.Shelf.Bodies2
import Derived.Shelf.RegionOpenPlain
import Derived.WalkKit
import Derived.Lib.Walk
import Derived.Lib.SliceRun
import Derived.Lib.JoinLaws
import Derived.Lib.AppendZeros
import Derived.Lib.Overlaps
import Derived.Laws.Externs
import Derived.Laws.IdiomCopy
import Derived.Lib.AppendZerosOnto
set_option linter.unusedVariables false
set_option linter.unusedSimpArgs false
set_option maxRecDepth 100000
open Array renaming length_toList->dR,getElem?_toList->cY,getElem?_eq_some_iff->dU,append_assoc->OK,getElem?_append_left->Eo,getElem?_eq_none->HU
open Bool renaming true->ai,false->ak,and_eq_true->aL
open Go renaming Program->c5,World->bL,Oper->fC,Operand->dy,Value->bk,TypeInfo->Kr
open Go.Act renaming eval->Ia,put->Wf
open Go.Builtin renaming copy_->gA,append_->iy,firstCells->fB,lenOf->pJ,zeroCells->fN
open Go.Extern.SlicesOverlaps renaming overlaps->fI
open Go.IntKind renaming i64->ao,wrap_i64->qj
open Go.Lib renaming wpList_append_run->um
open Go.Oper renaming wp->OO
open Go.Region renaming wanted->vn
open Go.Result renaming andThen_ok->bG
open Go.Sem renaming run_bind->cj,run_pure->cT,run->nB
open Go.Value renaming bool->Dv
open Go.World renaming cell?_of_block->uX,setRow->lI
open Int renaming toNat_natCast->dG
open List renaming map_toArray->DJ,map_cons->fD,map_nil->B0,length_take->eD,length_drop->iE,getElem?_take->d_,getElem?_drop->dQ,getElem?_of_mem->bY,getElem?_eq_some_iff->aT,getElem?_eq_getElem->eV,size_toArray->Wl,getElem?_toArray->ik,append_assoc->cz,getElem?_append_left->dH,getElem?_append_right->da,all_eq_true->bu,getElem_mem->bC,mem_of_getElem?->aQ,eq_nil_of_length_eq_zero->gd,length_map->bU
open Nat renaming min->R7,le_refl->cF,eq_zero_or_pos->Dw,add_zero->yX,mul_le_mul_right->b8,add_mul->dp,sub_mul->vq,min_def->MM,add_assoc->me,zero_add->bV,beq->bD,eq_of_beq_eq_true->aU,div_lt_iff_lt_mul->yK,mod_lt->Dx,div_add_mod->J_,mul_comm->EA,lt_of_lt_of_le->jy
open Option renaming some->ah,none->aj
open Option.some renaming inj->aJ
open Prod.mk renaming inj->bW
open _root_ renaming Nat->aF,Array->du,List->az,if_pos->bz,Option->aC,Int->aw,if_neg->bH,absurd->cJ,Bool->aX,cond_true->au,decide_eq_true_eq->bf
namespace Go.FG.Ins
open Go Go.Shelf Go.RowKit Go.Lib Go.Proofs
structure L (P:c5) (ρ:Ren) (nm:String) (sz:aF):Prop where
 mixed:P.follows .mixedOrders=ai
 f22:P.funcs[ρ.f 22]? =ah {Body2.n22 ρ with name:=nm}
 t3:P.underlying (ρ.t 3)=ah (TypeDesc.int ao)
 a3:∀w,(Go.isAgg (ρ.t 3)).run P w= .ok ak w
 t4:P.underlying (ρ.t 4)=ah (TypeDesc.bool)
 a4:∀w,(Go.isAgg (ρ.t 4)).run P w= .ok ak w
 t24:P.underlying (ρ.t 24)=ah (TypeDesc.slice (ρ.t 9))
 a24:∀w,(Go.isAgg (ρ.t 24)).run P w= .ok ak w
 z9:∀w,(Go.sizeOf (ρ.t 9)).run P w= .ok sz w
variable {P:c5} {ρ:Ren} {nm:String} {sz:aF}
theorem wpList_copy(w:bL){ops:du fC}{rest:az fC}{o:fC}{a:Act}{Q:Exit->Act->bL->Prop}(hgd:o.guard=aj)(d s:dy)(t t':TypeId)
  (ho:o.op= .call {callee:= .builtin .copy,args:= #[d,s],argTypes:= #[t,t']}) (v u:bk) (hd:a.eval d=v) (hs:a.eval s=u) {v':bk} {w':bL}
  (hr:(gA #[t,t'] o.type #[v,u]).run P w= .ok v' w') (h:wpList P ops Q rest (a.put o.dst v') w'):wpList P ops Q (o::rest) a w:=
 wpList_plain hgd λ_ hK=>by
  unfold OO execOp;simp only[ho,resolve,invoke,builtin,cj,cT,bG,DJ,fD,B0,hd,hs,hr];exact hK _ _ h
theorem step_copy{ops:du fC}{o:fC}{a:Act}{w:bL}{K:Act->bL->Prop}{Q:Exit->Act->bL->Prop}{E:Prop}
  (hg:o.guard=aj) (d x:dy) (dT sT:TypeId) (XS:o.op=Op.call {callee:=Callee.builtin Builtin.copy,args:= #[d,x],argTypes:= #[dT,sT]})
  (v u:bk) (hd:a.eval d=v) (hx:a.eval x=u) {v':bk} {w':bL} (hr:(gA #[dT,sT] o.type #[v,u]).run P w= .ok v' w') (hK:K (a.put o.dst v') w'):
  if vn o (yielded ops a.tmps)=ai then OO P o a w K Q else E:=by
 have hw:vn o (yielded ops a.tmps)=true:=by simp[vn,hg]
 rw[bz hw];unfold OO;simp[execOp,XS,resolve,invoke,builtin,hd,hx,hr,Result.andThen];exact hK
set_option maxHeartbeats 4000000 in
set_option maxRecDepth 100000 in
theorem zero(l:L P ρ nm sz)(w:bL)(A B:aC Addr)(n c i vc:aF)(hi:i<=n)(hn:n<=9223372036854775807)(hA:A=aj/\n=0\/∃b o,A=ah ⟨b,o,aj⟩):
  Calls P (ρ.f 22) #[.slice A n c, .int .i64 i, .slice B 0 vc] w λe w'=>e= .returned (.slice A n c)/\w'=w:=by
 have t3:=l.t3;have a3:=l.a3;have t4:=l.t4;have a4:=l.a4;have t24:=l.t24;have a24:=l.a24;have z9:=l.z9;have u3:=run_underlying l.t3;have u4:=run_underlying l.t4;have u24:=run_underlying l.t24;have hb1:(0:aw)<=(i:aw):=by omega
 have E_:(i:aw)<=(n:aw):=by omega
 go_enter l.f22,Body2.n22_ntmps ρ;rcases hA with ⟨rfl,rfl⟩|⟨b,o,rfl⟩
 ·obtain rfl:i=0:=by omega
  go_wp2;go_ret;exact⟨rfl,rfl⟩
 ·go_wp2;all_goals (go_ret;exact⟨rfl,rfl⟩)
set_option maxHeartbeats 4000000 in
set_option maxRecDepth 100000 in
theorem atEnd(l:L P ρ nm sz)(w w1:bL)(A B:aC Addr)(n c m vc:aF)(r:bk)(hm:0<m)(hn:n<=9223372036854775807)(hA:A=aj/\n=0\/∃b o,A=ah ⟨b,o,aj⟩)
  (h1:∀ty,(iy #[ρ.t 24,ρ.t 24] ty #[.slice A n c, .slice B m vc]).run P w= .ok r w1):
  Calls P (ρ.f 22) #[.slice A n c, .int .i64 n, .slice B m vc] w λe w'=>e= .returned r/\w'=w1:=by
 have t3:=l.t3;have a3:=l.a3;have t4:=l.t4;have a4:=l.a4;have t24:=l.t24;have a24:=l.a24;have z9:=l.z9;have u3:=run_underlying l.t3;have u4:=run_underlying l.t4;have u24:=run_underlying l.t24;have Kd:¬((m:aw)=0):=by omega
 go_enter l.f22,Body2.n22_ntmps ρ;rcases hA with ⟨rfl,rfl⟩|⟨b,o,rfl⟩
 ·go_wp2_with (at_builtin;refine um _ rfl _ _ _ _ rfl _ _ rfl rfl _ _ (h1 _) ?_)
  go_ret;exact⟨rfl,rfl⟩
 ·go_wp2_with (at_builtin;refine um _ rfl _ _ _ _ rfl _ _ rfl rfl _ _ (h1 _) ?_)
  all_goals (go_ret;exact⟨rfl,rfl⟩)
set_option maxHeartbeats 4000000 in
set_option maxRecDepth 100000 in
theorem shift(l:L P ρ nm sz)(w w1 w2:bL)(x1 x2:bk)(b o n c i m vc:aF)(B:aC Addr)(hi:i<n)(hm:0<m)(hroom:n+m<=c)(hc63:c<=9223372036854775807)
  (PC:∀lb cb,(callFunc (ρ.f 29) #[.slice B m vc, .slice (ah ⟨b,o+(i+m)*sz,aj⟩) lb cb]).run P w= .ok (.value (.bool ak)) w)
  (h1:∀ty,(gA #[ρ.t 24,ρ.t 24] ty #[.slice (ah ⟨b,o+(i+m)*sz,aj⟩) (n+m-(i+m)) (c-(i+m)), .slice (ah ⟨b,o+i*sz,aj⟩) (n+m-i) (c-i)]).run P w.drew= .ok x1 w1)
  (h2:∀ty,(gA #[ρ.t 24,ρ.t 24] ty #[.slice (ah ⟨b,o+i*sz,aj⟩) (n+m-i) (c-i), .slice B m vc]).run P w1= .ok x2 w2):
  Calls P (ρ.f 22) #[.slice (ah ⟨b,o,aj⟩) n c, .int .i64 i, .slice B m vc] w λe w'=>e= .returned (.slice (ah ⟨b,o,aj⟩) (n+m) c)/\w'=w2:=by
 have t3:=l.t3;have a3:=l.a3;have t4:=l.t4;have a4:=l.a4;have t24:=l.t24;have a24:=l.a24;have z9:=l.z9;have u3:=run_underlying l.t3;have u4:=run_underlying l.t4;have u24:=run_underlying l.t24;have Kd:¬((m:aw)=0):=by omega
 have Ea:¬((i:aw)=(n:aw)):=by omega
 have mixed:=l.mixed;have hw1:ao.wrap ((i:aw)+(m:aw))=(i:aw)+(m:aw):=by rw[qj];omega
 have hb1:(0:aw)<=(i:aw)+(m:aw):=by omega
 have gg:i<=n:=by omega
 have htn:((i:aw)+(m:aw)).toNat=i+m:=by omega
 have E_:¬(c=i+m):=by omega
 have hb3:(i:aw)<=(n:aw)+(m:aw):=by omega
 have hb4:¬(c=i):=by omega
 go_enter l.f22,Body2.n22_ntmps ρ;go_wp2_with (simp only[PC])
 go_region_law_o (refine step_copy rfl _ _ (ρ.t 24) (ρ.t 24) rfl _ _ (by simp[Ia,Wf]) (by simp[Ia,Wf]) (h1 _) ?_);go_wp2_with (at_builtin;refine wpList_copy _ rfl _ _ (ρ.t 24) (ρ.t 24) rfl _ _ rfl rfl (h2 _) ?_)
 go_ret;exact⟨rfl,rfl⟩
set_option maxHeartbeats 4000000 in
set_option maxRecDepth 100000 in
theorem grow(l:L P ρ nm sz)(w w1 w2 w3:bL)(x2 x3:bk)(b o b' n c c' i m vc:aF)(B:aC Addr)(hi:i<n)(hm:0<m)(S0:n<=c)(hroom:c<n+m)(tK:n+m<=9223372036854775807)(Jc:n+m<=c')(hc63:c'<=9223372036854775807)
  (h1:∀ty,(iy #[ρ.t 24,ρ.t 3] ty #[.slice (ah ⟨b,o,aj⟩) i c, .int .i64 ((n:aw)+(m:aw)-(i:aw))]).run P w= .ok (.slice (ah ⟨b',0,aj⟩) (n+m) c') w1)
  (h2:∀ty,(gA #[ρ.t 24,ρ.t 24] ty #[.slice (ah ⟨b',i*sz,aj⟩) (n+m-i) (c'-i), .slice B m vc]).run P w1= .ok x2 w2)
  (h3:∀ty,(gA #[ρ.t 24,ρ.t 24] ty #[.slice (ah ⟨b',(i+m)*sz,aj⟩) (n+m-(i+m)) (c'-(i+m)), .slice (ah ⟨b,o+i*sz,aj⟩) (n-i) (c-i)]).run P w2.drew= .ok x3 w3):
  Calls P (ρ.f 22) #[.slice (ah ⟨b,o,aj⟩) n c, .int .i64 i, .slice B m vc] w λe w'=>e= .returned (.slice (ah ⟨b',0,aj⟩) (n+m) c')/\w'=w3:=by
 have t3:=l.t3;have a3:=l.a3;have t4:=l.t4;have a4:=l.a4;have t24:=l.t24;have a24:=l.a24;have z9:=l.z9;have u3:=run_underlying l.t3;have u4:=run_underlying l.t4;have u24:=run_underlying l.t24;have Kd:¬((m:aw)=0):=by omega
 have Ea:¬((i:aw)=(n:aw)):=by omega
 have hz3:(c:aw)<(n:aw)+(m:aw):=by omega
 have mixed:=l.mixed;have hw0:ao.wrap ((n:aw)+(m:aw))=(n:aw)+(m:aw):=by rw[qj];omega
 have hw2:ao.wrap ((n:aw)+(m:aw)-(i:aw))=(n:aw)+(m:aw)-(i:aw):=by rw[qj];omega
 have hw1:ao.wrap ((i:aw)+(m:aw))=(i:aw)+(m:aw):=by rw[qj];omega
 have hb1:(0:aw)<=(i:aw)+(m:aw):=by omega
 have gg:i<=n:=by omega
 have htn:((i:aw)+(m:aw)).toNat=i+m:=by omega
 have hGi:¬(c'=i):=by omega
 have hGim:¬(c'=i+m):=by omega
 have hci:¬(c=i):=by omega
 have hic:i<=c:=by omega
 have hb3:(i:aw)<=(n:aw):=by omega
 have hb4:(i:aw)<=(n:aw)+(m:aw):=by omega
 go_enter l.f22,Body2.n22_ntmps ρ
 go_wp2_with (first
  |(at_builtin;refine um _ rfl _ _ _ _ rfl _ _ rfl rfl _ _ (h1 _) ?_)
  |(at_builtin;refine wpList_copy _ rfl _ _ (ρ.t 24) (ρ.t 24) rfl _ _ rfl rfl (h2 _) ?_))
 go_region_law_o (refine step_copy rfl _ _ (ρ.t 24) (ρ.t 24) rfl (.slice (ah ⟨b',(i+m)*sz,aj⟩) (n+m-(i+m)) (c'-(i+m))) (.slice (ah ⟨b,o+i*sz,aj⟩) (n-i) (c-i)) (by simp[Ia,Wf]) (by simp[Ia,Wf]) (h3 (ρ.t 3)) ?_);go_wp2;go_ret;exact⟨rfl,rfl⟩
end Go.FG.Ins

namespace Go.FG.Ins
open Go Go.Shelf Go.RowKit Go.Lib Go.Proofs
section
variable {P:c5}
theorem run_copyG{w:bL}{dT sT ty elem sz b o dLen dCap sLen sCap m:aF}{B:aC Addr}{cs:az bk}{cur:du bk}(hu:P.underlying dT=ah (.slice elem))(hs:∀w,(sizeOf elem).run P w= .ok sz w)
  (hf:(fB sz m (.slice B sLen sCap)).run P w= .ok cs.toArray w) (hm:R7 sLen dLen=m) (hb:n8 w b cur) (hl:o+cs.length<=cur.size) (h1:∀v∈cs,v.oneCell'=ai):
  (gA #[dT,sT] ty #[.slice (ah (ad b o)) dLen dCap, .slice B sLen sCap]).run P w= .ok (goInt m) (w.setRow b (eh cur o cs)):=by have Li:=nQ (P:=P) w hb hl h1;have xN:min sLen dLen=m:=hm;simp[gA,run_underlying hu,pJ,hs,xN,hf,Li]
theorem blk_drew{w:bL}{b:aF}{cur:du bk}(h:n8 w b cur):n8 w.drew b cur:=h
theorem cell_setRow_other{w:bL}{b b2 o:aF}{new:du bk}(h:b2≠b):(w.setRow b new).cell? (ad b2 o)=w.cell? (ad b2 o):=uX (setRow_other w b b2 _ h)
structure Insd (w w':bL) (p p':Pl) (i m:aF) (news:az bk):Prop where
 n:p'.n=p.n+m
 sz:p'.sz=p.sz
 nil:p'.nil=ai->p'.cap=0/\p.n=0/\m=0
 mem:p'.nil=ak->∃je,n8 w' p'.blk je/\p'.n<=p'.cap/\p'.cap<=maxLen/\p'.off+p'.cap*p'.sz<=je.size/\
  (∀k u,k<i*p.sz->w.cell? (ad p.blk (p.off+k))=ah u->je[p'.off+k]? =ah u)/\(∀k,k<m*p.sz->je[p'.off+i*p.sz+k]? =news[k]?)/\
  (∀k u,k<(p.n-i)*p.sz->w.cell? (ad p.blk (p.off+i*p.sz+k))=ah u->je[p'.off+(i+m)*p.sz+k]? =ah u)
 blk:p'.nil=ak->(p.nil=ak/\p'.blk=p.blk)\/p'.blk=w.heap.size
 old:∀b,b<w.heap.size->(p'.nil=ak->b≠p'.blk)->w'.heap[b]? =w.heap[b]?
 size:w.heap.size<=w'.heap.size
 os:w'.os=w.os
 tape:w'.tape=w.tape
 output:w'.output=w.output
structure Pre (w:bL) (p:Pl):Prop where
 nil:p.nil=ai->p.n=0/\p.cap=0
 mem:p.nil=ak->∃vals,n8 w p.blk vals/\p.n<=p.cap/\p.cap<=maxLen/\p.off+p.cap*p.sz<=vals.size
variable {ρ:Ren} {nm:String}
theorem overlaps_false{w:bL}{tS tR e:TypeId}(ht:P.underlying tS=ah (.slice e)){size:aF}(hz:∀w,(Go.sizeOf e).run P w= .ok size w){B:aC Addr}{m vc b o:aF}{vals:du bk}(hb:n8 w b vals)(ho:o<vals.size)
  (hB:∀a,B=ah a->0<m->a.block≠b/\∃t k,w.shape? a.block=ah (t,k+1)) (lb cb:aF):
  (fI #[tS,tS] #[tR] #[.slice B m vc, .slice (ah (ad b o)) lb cb]).run P w= .ok (.bool ak) w:=by
 obtain⟨t,fr,hg,Ao⟩:=hb;have hsb:w.shape? b=ah (t,vals.size):=by simp[World.shape?,hg]
 have f1:w.frozen? ⟨b,o,aj⟩=false:=by have:=Ao o (by omega);simpa [World.frozen?,hg]using this
 have f2:w.frozen? ⟨b,vals.size,aj⟩=false:=by have:=Ao vals.size (cF _);simpa [World.frozen?,hg]using this
 have hne0:vals.size≠0:=by omega
 change nB P (α:=bk) (do
  let ah t:=(#[tS,tS]:du TypeId)[0]? |stuck "slices.overlaps: no parameter types"
  let .slice elem<-underlying t|stuck "slices.overlaps: slice type expected"
  let size<-sizeOf elem
  match B,(ah (ad b o):aC Addr)with
  |some a,ah b=>
   if m=0\/lb=0\/size=0 then pure (Dv ak)
   else if a.block !=b.block&&(<-frozen a)&&(<-frozen b)then unsupported .addressObserved
   else do
    if a.block !=b.block then do
     noView a;noView b
     if<-mayBeOne a b then return Dv ((<-choose (.extern "sameAddr.stringBytes" 2))==1)
    pure (Dv (a.block==b.block&&a.off<b.off+lb*size&&b.off<a.off+m*size))
  |_,_=>pure (Dv ak)) w=_
 cases B with
 |none=>simp[run_underlying ht,hz]
 |some a=>
  by_cases h0:m=0\/lb=0\/size=0
  ·simp[run_underlying ht,hz,h0]
  ·have hm:0<m:=by omega
   obtain⟨iB,ta,k,hsa⟩:=hB a rfl hm;have Lf:(a.block !=b)=true:=by simpa using iB
   have hnb':(a.block==b)=false:=by simpa using iB
   obtain⟨n,hn⟩:∃n,vals.size=n+1:=⟨vals.size-1,by omega⟩
   rw[hn]at hsb f2;simp[run_underlying ht,hz,h0,Lf,hnb',iB,frozen,noView,viewAt,mayBeOne,stringish,shape,nB,hsa,hsb,f1,f2]
theorem first_of{w:bL}{sz m b o len cap:aF}{cs:az bk}(hl:cs.length=m*sz)(h:∀j u,cs[j]? =ah u->w.cell? (ad b (o+j))=ah u):(fB sz m (.slice (ah (ad b o)) len cap)).run P w= .ok cs.toArray w:=
 run_firstCells_some w sz m _ _ _ cs hl (λj v hj=>by rw[Addr.oa];exact h j v hj)
theorem insert_run{sz:aF}(l:L P ρ nm sz){inf:Kr}{z:bk}(hi:P.info? (ρ.t 9)=ah inf)(hz:inf.zero=ah z)(QI:z.cells.size=sz)(gh:inf.size=sz)(ll:0<sz)
  (PC:∀args w,(callFunc (ρ.f 29) args).run P w=((fI #[ρ.t 24,ρ.t 24] #[ρ.t 4] args).run P w).andThen λv w'=> .ok (.value v) w')
  {w:bL} {p:Pl} (hp:p.sz=sz) (pre:Pre w p) {i m vc:aF} {B:aC Addr} {news:az bk} (gg:i<=p.n) (hv:news.length=m*sz) (hB:m=0\/∃b2 o2,B=ah (ad b2 o2)/\(p.nil=ak->b2≠p.blk)/\∀j u,news[j]? =ah u->w.cell? (ad b2 (o2+j))=ah u)
  (xO:∀v∈news,v.oneCell'=ai) (h1:(p.n+m)*inf.bytes<=140737488355328) (h2:p.n+m<=9223372036854775807) (hone2:∀vals k v,p.nil=ak->n8 w p.blk vals->k<p.n*sz->vals[p.off+k]? =ah v->v.oneCell'=ai):
  ∃p' w',Insd w w' p p' i m news/\Calls P (ρ.f 22) #[lW p, .int .i64 i, .slice B m vc] w (λe w2=>e= .returned (lW p')/\w2=w'):=by
 subst hp;have hnm:p.n<=9223372036854775807:=by omega
 rcases Dw m with rfl|hm
 ·refine⟨p,w,⟨rfl,rfl,λh=>⟨(pre.nil h).2,(pre.nil h).1,rfl⟩,λh=> ?_,λh=> .inl ⟨h,rfl⟩,λ_ _ _=>rfl,cF _,rfl,rfl,rfl⟩, ?_⟩
  ·obtain⟨vals,hb,q1,q2,q3⟩:=pre.mem h;refine⟨vals,hb,q1,q2,q3,λk u _ hu=>by rw[<-hb.cell];exact hu,λk hk=>by simp at hk,λk u _ hu=> ?_⟩
   rw[<-hb.cell,yX];exact hu
  ·cases hq:p.nil with
   |true=>have h0:=(pre.nil hq).1;rw[nO hq];have:=zero l w aj B 0 0 i vc (by omega) (by omega) (.inl ⟨rfl,rfl⟩);exact this
   |false=>rw[fa hq];exact zero l w _ B p.n p.cap i vc gg hnm (.inr ⟨_,_,rfl⟩)
 ·obtain⟨b2,o2,rfl,E_,hcell⟩:=hB.resolve_left (by omega);by_cases hend:i=p.n
  ·subst hend;have happ:App P w (ρ.t 24) (.slice (ah (ad b2 o2)) m vc) z.cells p.sz m news:=by refine⟨.inl ⟨.inl ⟨_,l.t24⟩,by simp[pJ],first_of hv hcell,first_of (w:=w.drew) hv hcell⟩,hv,xO⟩
   obtain⟨p',w',hr,hA⟩:=t_ (P:=P) (w:=w) (t:=ρ.t 24) (u:=ρ.t 24) (ty:=0) (p:=p) l.t24 hi hz QI gh (λh=>(pre.nil h).1) pre.mem happ h1 h2;refine⟨p',w',⟨hA.n,hA.sz,hA.nil,λh=> ?_,hA.blk,hA.old,hA.size,hA.os,hA.tape,hA.output⟩, ?_⟩
   ·obtain⟨je,q1,q2,q3,q4,q5,q6⟩:=hA.mem h;exact⟨je,q1,q2,q3,q4,q5,q6,λk u hk _=>by simp at hk⟩
   ·have D7:∀ty,(iy #[ρ.t 24,ρ.t 24] ty #[lW p, .slice (ah (ad b2 o2)) m vc]).run P w= .ok (lW p') w':=λty=>hr;cases hq:p.nil with
    |true=>have h0:=(pre.nil hq).1;rw[nO hq]at D7⊢;have:=atEnd l w w' aj (ah (ad b2 o2)) 0 0 m vc (lW p') hm (by omega) (.inl ⟨rfl,rfl⟩) D7;rw[h0];exact this
    |false=>rw[fa hq]at D7⊢;exact atEnd l w w' _ (ah (ad b2 o2)) p.n p.cap m vc (lW p') hm hnm (.inr ⟨_,_,rfl⟩) D7
  ·have jD:i<p.n:=by omega
   have hq:p.nil=false:=by
    cases h:p.nil with
    |false=>rfl
    |true=>have:=(pre.nil h).1;omega
   obtain⟨vals,hb,S0,XM,mM⟩:=pre.mem hq;have iB:=E_ hq;rw[fa hq];have m1:i*p.sz<=p.n*p.sz:=b8 _ gg;have m2:p.n*p.sz<=p.cap*p.sz:=b8 _ S0;have e1:(i+m)*p.sz=i*p.sz+m*p.sz:=dp _ _ _;have e2:(p.n-i)*p.sz=p.n*p.sz-i*p.sz:=vq _ _ _;have m0:i*p.sz+p.sz<=p.n*p.sz:=by have:=b8 p.sz (show i+1<=p.n by omega);rwa[dp,Nat.one_mul]at this
   have hp0:p.sz<=m*p.sz:=Nat.le_mul_of_pos_left _ hm;have n1:R7 (p.n+m-i) (p.n+m-(i+m))=p.n-i:=by simp only[MM];split<;>omega
   have n2:R7 m (p.n+m-i)=m:=by simp only[MM];split<;>omega
   have n3:R7 (p.n-i) (p.n+m-(i+m))=p.n-i:=by simp only[MM];split<;>omega
   let tail:=(vals.toList.drop (p.off+i*p.sz)).take ((p.n-i)*p.sz);have htl:tail.length=(p.n-i)*p.sz:=by simp only[tail,eD,iE,dR];omega
   have htg:∀k,k<(p.n-i)*p.sz->tail[k]? =vals[p.off+i*p.sz+k]? :=λk hk=>by simp only[tail,d_,bz hk,dQ,cY]
   have ht1:∀v∈tail,v.oneCell'=true:=λv hv=>by
    obtain⟨k,hk⟩:=bY hv;have D6:k<(p.n-i)*p.sz:=by rw[<-htl];exact(aT.1 hk).1
    rw[htg k D6]at hk;exact hone2 vals (i*p.sz+k) v hq hb (by omega) (by rw[<-me];exact hk)
   by_cases hroom:p.n+m<=p.cap
   ·-- in place
    have m3:(p.n+m)*p.sz<=p.cap*p.sz:=b8 _ hroom;rw[dp]at m3;have NB:p.off+(i+m)*p.sz+tail.length<=vals.size:=by rw[htl];omega
    have hb1:n8 (w.drew.setRow p.blk (eh vals (p.off+(i+m)*p.sz) tail)) p.blk (eh vals (p.off+(i+m)*p.sz) tail):=n8.setRow (w:=w.drew) (blk_drew hb) (fg NB);have Fa:p.off+i*p.sz+news.length<=(eh vals (p.off+(i+m)*p.sz) tail).size:=by rw[fg NB,hv];omega
    have c1:∀ty,(gA #[ρ.t 24,ρ.t 24] ty #[.slice (ah ⟨p.blk,p.off+(i+m)*p.sz,aj⟩) (p.n+m-(i+m)) (p.cap-(i+m)), .slice (ah ⟨p.blk,p.off+i*p.sz,aj⟩) (p.n+m-i) (p.cap-i)]).run P w.drew= .ok (goInt ((p.n-i:aF):aw)) (w.drew.setRow p.blk (eh vals (p.off+(i+m)*p.sz) tail)):=λty=>
     run_copyG (P:=P) (w:=w.drew) l.t24 l.z9 (first_of (w:=w.drew) htl (λj u hj=>by
      have j8:j<(p.n-i)*p.sz:=by rw[<-htl];exact(aT.1 hj).1
      rw[htg j j8]at hj;exact(hb.cell _).trans hj)) n1 (blk_drew hb) NB ht1
    have c2:∀ty,(gA #[ρ.t 24,ρ.t 24] ty #[.slice (ah ⟨p.blk,p.off+i*p.sz,aj⟩) (p.n+m-i) (p.cap-i), .slice (ah (ad b2 o2)) m vc]).run P (w.drew.setRow p.blk (eh vals (p.off+(i+m)*p.sz) tail))= .ok (goInt m) ((w.drew.setRow p.blk (eh vals (p.off+(i+m)*p.sz) tail)).setRow p.blk (eh (eh vals (p.off+(i+m)*p.sz) tail) (p.off+i*p.sz) news)):=λty=>
     run_copyG (P:=P) l.t24 l.z9 (first_of hv (λj u hj=>by rw[cell_setRow_other iB];exact hcell j u hj)) n2 hb1 Fa xO
    have hcal:=shift l w _ _ _ _ p.blk p.off p.n p.cap i m vc (ah (ad b2 o2)) jD hm hroom XM (λlb cb=>by
     rw[PC,overlaps_false (P:=P) (w:=w) l.t24 l.z9 hb (o:=p.off+(i+m)*p.sz) (by omega) (λa ha _=>by
      cases ha;have h0:0<news.length:=by rw[hv];omega
      have:=hcell 0 _ (eV h0);refine⟨iB, ?_⟩
      unfold World.cell? at this;unfold World.shape?;split at this
      ·rename_i cc tt ff hg;rw[hg];simp at this;obtain⟨hlt2,_⟩:=dU.1 this;exact⟨tt,cc.size-1,by simp;omega⟩
      ·cases this) lb cb]
     rfl) c1 c2
    refine⟨⟨ak,p.blk,p.off,p.cap,p.n+m,p.sz⟩,(w.drew.setRow p.blk (eh vals (p.off+(i+m)*p.sz) tail)).setRow p.blk (eh (eh vals (p.off+(i+m)*p.sz) tail) (p.off+i*p.sz) news),⟨rfl,rfl,λh=>(by cases h),λ_=> ?_,λ_=> .inl ⟨hq,rfl⟩,λb QD Lf=> ?_,by simp[lI],rfl,rfl,rfl⟩,by rw[fa rfl];exact hcal⟩
    ·refine⟨_,hb1.setRow (fg Fa),hroom,XM,by rw[fg Fa,fg NB];exact mM,λk u hk hu=> ?_,λk hk=> ?_,λk u hk hu=> ?_⟩
     ·show(eh (eh vals (p.off+(i+m)*p.sz) tail) (p.off+i*p.sz) news)[p.off+k]? =ah u;rw[gp Fa,bH (by omega),gp NB,bH (by omega),<-hb.cell];exact hu
     ·show(eh (eh vals (p.off+(i+m)*p.sz) tail) (p.off+i*p.sz) news)[p.off+i*p.sz+k]? =news[k]?;rw[gp Fa,bz (by rw[hv];omega)];congr 1;omega
     ·show(eh (eh vals (p.off+(i+m)*p.sz) tail) (p.off+i*p.sz) news)[p.off+(i+m)*p.sz+k]? =ah u;rw[gp Fa,bH (by rw[hv];omega),gp NB,bz (by rw[htl];omega),show p.off+(i+m)*p.sz+k-(p.off+(i+m)*p.sz)=k by omega,htg k hk,<-hb.cell];exact hu
    ·have hbne:b≠p.blk:=Lf rfl;rw[setRow_other _ _ b _ hbne,setRow_other _ _ b _ hbne];rfl
   ·-- a new row
    have hgo:p.cap<p.n+m:=by omega
    let pE:=(vals.toList.drop p.off).take (i*p.sz);have Fb:pE.length=i*p.sz:=by simp only[pE,eD,iE,dR];omega
    have hog:∀k,k<i*p.sz->pE[k]? =vals[p.off+k]? :=λk hk=>by simp only[pE,d_,bz hk,dQ,cY]
    have Wx:i+(p.n+m-i)=p.n+m:=by omega
    have SY:(p.n:aw)+(m:aw)-(i:aw)=((p.n+m-i:aF):aw):=by omega
    have hold:(fB inf.size i (.slice (ah (ad p.blk p.off)) i p.cap)).run P w.drew= .ok pE.toArray w.drew:=by
     rw[gh];exact first_of (w:=w.drew) Fb (λj u hj=>by
      have j8:j<i*p.sz:=by rw[<-Fb];exact(aT.1 hj).1
      rw[hog j j8]at hj;exact(hb.cell _).trans hj)
    have hG:=grownCap_ge w (p.n+m) p.cap (ρ.t 9);have hG2:=grownCap_le_maxLen w (p.n+m) p.cap (ρ.t 9) (by unfold maxLen;omega);generalize hGd:grownCap w (p.n+m) p.cap (ρ.t 9)=G at hG hG2;obtain⟨arr,harr⟩:∃arr:du bk,arr=pE.toArray++fN z.cells (p.n+m-i)++fN z.cells (G-(p.n+m)):=⟨_,rfl⟩
    have a1:∀ty,(iy #[ρ.t 24,ρ.t 3] ty #[.slice (ah ⟨p.blk,p.off,aj⟩) i p.cap, .int .i64 ((p.n:aw)+(m:aw)-(i:aw))]).run P w= .ok (.slice (ah ⟨w.heap.size,0,aj⟩) (p.n+m) G) (w.drew.alloc (.cells arr (ρ.t 9))):=λty=>by have hmb:(p.n+m-i)*inf.bytes<=(p.n+m)*inf.bytes:=b8 _ (by omega);have h:=Lib.run_append_grow_zeros w (ρ.t 24) (ρ.t 3) ty (ρ.t 9) inf z .i64 .i64 l.t24 l.t3 hi hz (ah (ad p.blk p.off)) i p.cap pE hold (p.n+m-i) (by omega) (by omega) (by omega) (by omega) (by omega) (by rw[Wx];exact growslice_fits hgo h1);rw[Wx,hGd,<-harr]at h;rw[SY];exact h
    have sarr:arr.size=i*p.sz+(p.n+m-i)*p.sz+(G-(p.n+m))*p.sz:=by rw[harr];simp only[Array.size_append,Wl,size_zeroCells,QI,Fb]
    have e3:(p.n+m-i)*p.sz=p.n*p.sz+m*p.sz-i*p.sz:=by rw[vq,dp]
    have e4:G*p.sz=(p.n*p.sz+m*p.sz)+(G-(p.n+m))*p.sz:=by rw[<-dp,<-dp];congr 1;omega
    have hbw:p.blk<w.heap.size:=hb.lt;have hb0:n8 (w.drew.alloc (.cells arr (ρ.t 9))) w.heap.size arr:=n8.alloc w.drew arr _;have NB:i*p.sz+news.length<=arr.size:=by rw[sarr,hv];omega
    have hb1:=hb0.setRow (new:=eh arr (i*p.sz) news) (fg NB);have Fa:(i+m)*p.sz+tail.length<=(eh arr (i*p.sz) news).size:=by rw[fg NB,sarr,htl];omega
    have hb2w:b2<w.heap.size:=by
     have h0:0<news.length:=by rw[hv];omega
     exact block_lt_of_cell (hcell 0 _ (eV h0))
    have oldc:∀b o,b<w.heap.size->(w.drew.alloc (.cells arr (ρ.t 9))).cell? (ad b o)=w.cell? (ad b o):=λb o hbl=>uX (heap_alloc_old w.drew _ hbl);have c1:∀ty,(gA #[ρ.t 24,ρ.t 24] ty #[.slice (ah ⟨w.heap.size,i*p.sz,aj⟩) (p.n+m-i) (G-i), .slice (ah (ad b2 o2)) m vc]).run P (w.drew.alloc (.cells arr (ρ.t 9)))= .ok (goInt m) ((w.drew.alloc (.cells arr (ρ.t 9))).setRow w.heap.size (eh arr (i*p.sz) news)):=λty=>
     run_copyG (P:=P) l.t24 l.z9 (first_of hv (λj u hj=>by rw[oldc _ _ hb2w];exact hcell j u hj)) n2 hb0 NB xO
    have c2:∀ty,(gA #[ρ.t 24,ρ.t 24] ty #[.slice (ah ⟨w.heap.size,(i+m)*p.sz,aj⟩) (p.n+m-(i+m)) (G-(i+m)), .slice (ah ⟨p.blk,p.off+i*p.sz,aj⟩) (p.n-i) (p.cap-i)]).run P ((w.drew.alloc (.cells arr (ρ.t 9))).setRow w.heap.size (eh arr (i*p.sz) news)).drew= .ok (goInt ((p.n-i:aF):aw)) (((w.drew.alloc (.cells arr (ρ.t 9))).setRow w.heap.size (eh arr (i*p.sz) news)).drew.setRow w.heap.size (eh (eh arr (i*p.sz) news) ((i+m)*p.sz) tail)):=λty=>
     run_copyG (P:=P) (w:=((w.drew.alloc (.cells arr (ρ.t 9))).setRow w.heap.size (eh arr (i*p.sz) news)).drew) l.t24 l.z9 (first_of htl (λj u hj=>by
      have j8:j<(p.n-i)*p.sz:=by rw[<-htl];exact(aT.1 hj).1
      rw[htg j j8]at hj;show((w.drew.alloc (.cells arr (ρ.t 9))).setRow w.heap.size (eh arr (i*p.sz) news)).cell? (ad p.blk (p.off+i*p.sz+j))=ah u;rw[cell_setRow_other (by omega),oldc _ _ hbw];exact(hb.cell _).trans hj)) n3 (blk_drew hb1) Fa ht1
    have hcal:=grow l w _ _ _ _ _ p.blk p.off w.heap.size p.n p.cap G i m vc (ah (ad b2 o2)) jD hm S0 hgo h2 hG hG2 a1 c1 c2;refine⟨⟨ak,w.heap.size,0,G,p.n+m,p.sz⟩,((w.drew.alloc (.cells arr (ρ.t 9))).setRow w.heap.size (eh arr (i*p.sz) news)).drew.setRow w.heap.size (eh (eh arr (i*p.sz) news) ((i+m)*p.sz) tail),⟨rfl,rfl,λh=>(by cases h),λ_=> ?_,λ_=> .inr rfl,λb QD Lf=> ?_,by simp[lI],rfl,rfl,rfl⟩,by rw[fa rfl];exact hcal⟩
    ·refine⟨_,n8.setRow (w:=((w.drew.alloc (.cells arr (ρ.t 9))).setRow w.heap.size (eh arr (i*p.sz) news)).drew) (blk_drew hb1) (fg Fa),hG,hG2,by rw[fg Fa,fg NB,sarr];show 0+G*p.sz<=_;omega,λk u hk hu=> ?_,λk hk=> ?_,λk u hk hu=> ?_⟩
     ·show(eh (eh arr (i*p.sz) news) ((i+m)*p.sz) tail)[0+k]? =ah u;rw[bV,gp Fa,bH (by omega),gp NB,bH (by omega),harr,OK,Eo (by simp[Fb];omega),ik,hog k hk,<-hb.cell];exact hu
     ·show(eh (eh arr (i*p.sz) news) ((i+m)*p.sz) tail)[0+i*p.sz+k]? =news[k]?;rw[bV,gp Fa,bH (by omega),gp NB,bz (by rw[hv];omega)];congr 1;omega
     ·show(eh (eh arr (i*p.sz) news) ((i+m)*p.sz) tail)[0+(i+m)*p.sz+k]? =ah u;rw[bV,gp Fa,bz (by rw[htl];omega),show(i+m)*p.sz+k-(i+m)*p.sz=k by omega,htg k hk,<-hb.cell];exact hu
    ·have hbne:b≠w.heap.size:=by omega
     rw[setRow_other _ _ b _ hbne];show((w.drew.alloc (.cells arr (ρ.t 9))).setRow w.heap.size (eh arr (i*p.sz) news)).heap[b]? =_;rw[setRow_other _ _ b _ hbne,heap_alloc_old w.drew _ QD];rfl
end
end Go.FG.Ins

namespace Go.FG.Ins
open Go Go.Shelf Go.RowKit Go.Lib Go.Proofs
abbrev ofTab(T:Tab):fQ:={toTab:=T,call:=λ_ _=>aj,om:=λ_ _=> .nat,mode:=λ_ _=>ak,keep:=λ_=>[],tk:=λ_=>false}
theorem holdsK{T:Tab}{w:bL}{K:aF->Prop}{v:bk}{e:aF}{ys:aR}(h:c_ T w K v (.l e ys))(h0:ys≠[]){b o n c:aF}(hv:v= .slice (ah (ad b o)) n c):K b:=by
 cases h with
 |nl=>exact cJ rfl h0
 |l e xs b' o' c' VU U ht hc hm hK hs hcell gg=>cases hv;exact hK
def xQ(e bytes:aF):az fw->aC (aX×dA)
 |[.v ak [.ow e1 ai xs], .v ak [.i .i64 i], .v ak [.sh e2 ys]]=>bif bD e1 e&&bD e2 e then
  ah (decide (0<=i)&&decide (i<=(xs.length:aw))&&cw (xs.length+ys.length) bytes,⟨[.v ak [.ow e ai (Pu.tN xs i.toNat ys)]],[]⟩)else aj
 |_=>aj
theorem insR_get{xs ys:aR}{i:aF}(h:i<=xs.length)(k:aF)(y:az CV)(hk:(Pu.tN xs i ys)[k]? =ah y):
  (k<i/\xs[k]? =ah y)\/(i<=k/\k<i+ys.length/\ys[k-i]? =ah y)\/(i+ys.length<=k/\xs[k-ys.length]? =ah y):=by
 unfold Pu.tN at hk;have hl:(xs.take i).length=i:=by simp;omega
 by_cases h1:k<i
 ·rw[cz,dH (by omega),d_,bz h1]at hk;exact .inl ⟨h1,hk⟩
 ·by_cases h2:k<i+ys.length
  ·rw[cz,da (by omega),hl,dH (by omega)]at hk;exact .inr (.inl ⟨by omega,h2,hk⟩)
  ·rw[da (by simp;omega),dQ]at hk;refine .inr (.inr ⟨by omega, ?_⟩);rw[<-hk];congr 1;simp;omega
theorem lk{P:c5}{t:aF}{d:TypeDesc}(h:P.underlying t=ah d)(hb:rY d=ai)(w:bL):(Go.isAgg t).run P w= .ok ak w:=by simp only[Go.isAgg,cj,run_underlying h,bG];cases d<;>simp_all [rY]
theorem HG{P:c5}{T:Tab}(hE:eH P T){t:aF}{ti:TI}(h:T.ty t=ah ti)(w:bL):(sizeOf t).run P w= .ok ti.ks.length w:=by obtain⟨inf,hi,hs,_⟩:=hE.info t ti h;simp only[sizeOf,typeInfo,program,cj,nB,bG,hi,hs,cT]
section
variable {P:c5} {ρ:Ren} {nm:String} {T:Tab}
theorem zG{e:aF}{te:TI}(he:T.ty e=ah te)(hρ:ρ.t 9=e)(hp:plain te.ks=ai)(hE:eH P T)(l:L P ρ nm te.ks.length)
  (PC:∀args w,(callFunc (ρ.f 29) args).run P w=((fI #[ρ.t 24,ρ.t 24] #[ρ.t 4] args).run P w).andThen λv w'=> .ok (.value v) w')
  (hfn:∃fn,P.funcs[ρ.f 22]? =ah fn/\fn.body.isSome=ai/\(fn.name== "runtime.NumGoroutine")=ak):lS P T (ρ.f 22) (xQ e te.bytes):=by
 have zF:LB te.ks=true:=bu.2 λk hk=>by have:=bu.1 hp k hk;cases k<;>simp_all
 obtain⟨inf,hi,gh,hby,ll,hzz⟩:=hE.info e te he;obtain⟨z,hz,hzc,_⟩:=hzz zF;have QI:z.cells.size=te.ks.length:=by rw[hzc];simp
 intro args r h w c1 vs cf hs hv;refine⟨hfn, ?_⟩
 unfold xQ at h;split at h
 ·rename_i e1 xs i e2 ys;cases hb:(bD e1 e&&bD e2 e)with
  |false=>rw[hb]at h;cases h
  |true=>
   rw[hb,au]at h;simp only[aL]at hb;have:=aU hb.1;subst this;have:=aU hb.2;subst this;have h:=aJ h;obtain⟨hc,rfl⟩:=bW h;simp only[aL,bf,cw]at hc;obtain⟨⟨c0,c2⟩,c3,c4⟩:=hc;obtain⟨v0,g0,s0⟩:=hv 0 _ rfl;obtain⟨v1,g1,s1⟩:=hv 1 _ rfl;obtain⟨v2,g2,s2⟩:=hv 2 _ rfl;have S9:vs= #[v0,v1,v2]:=by
    have h3:vs.size=3:=hs;apply Array.ext_getElem?;intro k;match k with
    |0=>rw[g0];rfl
    |1=>rw[g1];rfl
    |2=>rw[g2];rfl
    |k+3=>rw[HU (by omega),HU (by simp)]
   subst S9;have s0:v0=lW (c1.P (dS 0 0)):=s0;have s1:v1= .int .i64 i:=s1;have s2:c_ T w c1.K v2 (.l e2 ys):=s2;subst s0;subst s1;have m9:inj [.v ak [.ow e2 ai xs], .v ak [.i .i64 i], .v ak [.sh e2 ys]] (c8 (dS 0 0))= .o (.row e2 ai xs):=rfl;obtain⟨⟨ti,ht,He,mR⟩,gf,Jh⟩:=cf.obj _ _ m9;have hti:ti=te:=aJ (ht.symm.trans he);subst hti;generalize hpd:c1.P (dS 0 0)=p at gf He;have pre:Pre w p:=⟨λh=>by have:=gf.nil h;exact⟨by rw[gf.n,this.1];rfl,this.2⟩,λh=>by obtain⟨vals,q1,q2,q3,q4,_⟩:=gf.mem h;exact⟨vals,q1,q2,q3,q4⟩⟩
   obtain⟨n,rfl⟩:∃n:aF,i=(n:aw):=⟨i.toNat,by omega⟩
   have hnx:n<=xs.length:=by omega
   have D9:=zV (E:=ofTab T) he s2;have Jp:∀y∈ys,y.length=ti.ks.length:=λy hy=>by rw[<-D9.2 y hy];simp
   have X4:∀y∈xs,y.length=ti.ks.length:=λy hy=>by rw[<-mR y hy];simp
   obtain⟨B,vc,news,ND,n1,n2,n3⟩:=D9.1.list Jp;have cellOf:∀k,k<ys.length*ti.ks.length->∃y x,ys[k/ti.ks.length]? =ah y/\y[k%ti.ks.length]? =ah x/\k/ti.ks.length*ti.ks.length+k%ti.ks.length=k:=by
    intro k hk;have h1:k/ti.ks.length<ys.length:=by rw[yK ll];exact hk
    have h2:k%ti.ks.length<ys[k/ti.ks.length].length:=by rw[Jp _ (bC h1)];exact Dx _ ll
    refine⟨_,_,eV h1,eV h2, ?_⟩
    have:=J_ k ti.ks.length;rw[EA]at this;exact this
   have xO:∀v∈news,v.oneCell'=true:=λv hv=>by
    obtain⟨k,hk⟩:=bY hv;have D6:k<ys.length*ti.ks.length:=by rw[<-n1];exact(aT.1 hk).1
    obtain⟨y,x,q1,q2,q3⟩:=cellOf k D6;obtain⟨u,hu,hr⟩:=n3 _ _ _ _ q1 q2;rw[q3,hk]at hu;cases hu;exact c_.one (E:=ofTab T) hr
   have hKne:∀b,c1.K b->p.nil=ak->b≠p.blk:=λb hk hn he=>by exact cf.kk _ _ p.blk m9 (.inl ⟨by rw[hpd];exact hn,by rw[hpd]⟩) (he▸hk)
   have hB:ys.length=0\/∃b2 o2,B=ah (ad b2 o2)/\(p.nil=ak->b2≠p.blk)/\∀j u,news[j]? =ah u->w.cell? (ad b2 (o2+j))=ah u:=by
    rcases n2 with rfl|⟨b2,o2,rfl,hc2⟩
    ·exact .inl rfl
    ·by_cases h0:ys=[]
     ·subst h0;exact .inl rfl
     ·refine .inr ⟨b2,o2,rfl,λhn=> ?_,hc2⟩;exact hKne _ (holdsK s2 h0 ND) hn
   have xrel:∀(k:aF) (y:az CV) (j:aF) (x:CV),p.nil=ak->xs[k]? =ah y->y[j]? =ah x->∃u,w.cell? (ad p.blk (p.off+k*p.sz+j))=ah u/\Sc u x:=by intro k y j x hn hk hj;obtain⟨vals,q1,q2,q3,q4,q5⟩:=gf.mem hn;obtain⟨u,hu,hr⟩:=q5 k y j x hk hj;rw[bz rfl]at hr;exact⟨u,by rw[q1.cell];exact hu,uS (E:=ofTab T) hr (iw hp (mR y (aQ hk)) hj)⟩
   have hone2:∀vals k v,p.nil=ak->n8 w p.blk vals->k<p.n*p.sz->vals[p.off+k]? =ah v->v.oneCell'=true:=by
    intro vals k v hn hbv hk hkv;rw[He]at hk;have h1:k/ti.ks.length<xs.length:=by rw[yK ll,<-gf.n];exact hk
    have h2:k%ti.ks.length<xs[k/ti.ks.length].length:=by rw[X4 _ (bC h1)];exact Dx _ ll
    obtain⟨u,hu,hsc⟩:=xrel _ _ _ _ hn (eV h1) (eV h2);have:=J_ k ti.ks.length;rw[EA]at this;rw[He,show p.off+k/ti.ks.length*ti.ks.length+k%ti.ks.length=p.off+k by omega,hbv.cell,hkv]at hu;cases hu;rw[hsc.1];exact JY
   rw[ND];obtain⟨p',w',hI,hcal⟩:=insert_run (P:=P) (sz:=ti.ks.length) l (by rw[hρ];exact hi) hz QI gh ll PC He pre (i:=n) (m:=ys.length) (vc:=vc) (by rw[gf.n];exact hnx) n1 hB xO (by rw[gf.n,hby];exact c3) (by rw[gf.n];exact c4) (λvals k v h1 h2 h3 h4=>hone2 vals k v h1 h2 (by rw[He];exact h3) h4);refine hcal.mono ?_;intro e1 w2 hh;rw[hh.1,hh.2];show R8 T _ _ c1 w (lW p') w';rw[dG];generalize hzd:Pu.tN xs n ys=zs;have Ll:zs.length=xs.length+ys.length:=by rw[<-hzd];unfold Pu.tN;simp;omega
   have hzg:∀(k:aF) (y:az CV),zs[k]? =ah y->(k<n/\xs[k]? =ah y)\/(n<=k/\k<n+ys.length/\ys[k-n]? =ah y)\/(n+ys.length<=k/\xs[k-ys.length]? =ah y):=λk y hk=>insR_get hnx k y (by rw[hzd];exact hk);have hzsh:∀y∈zs,y.map CV.kd=ti.ks:=λy hy=>by
    obtain⟨k,hk⟩:=bY hy;rcases hzg k y hk with ⟨_,h⟩|⟨_,_,h⟩|⟨_,h⟩
    ·exact mR y (aQ h)
    ·exact D9.2 y (aQ h)
    ·exact mR y (aQ h)
   have hzp:∀(k:aF) (y:az CV) (j:aF) (x:CV),zs[k]? =ah y->y[j]? =ah x->uH x=false:=λk y j x hk hj=>iw hp (hzsh y (aQ hk)) hj;let c3:e9:=⟨λm=>if m=dS 500 0 then p' else c1.P m,λm=>if m=dS 500 0 then(λ_ _=>⟨ai,0,0,0,0,0⟩)else c1.G m,c1.K⟩
   have hP3:c3.P (dS 500 0)=p':=by simp[c3]
   have hG3:c3.G (dS 500 0)=λ_ _=>⟨ai,0,0,0,0,0⟩:=by simp[c3]
   have hO:∀m o,oC [.v ak [.ow e2 ai xs], .v ak [.i .i64 n], .v ak [.sh e2 ys]] ⟨[.v ak [.ow e2 ai zs]],[]⟩ (c8 m)= .o o->m=dS 500 0/\o= .row e2 ai zs:=by intro m o ho;have hm:=n6 ho (by simp);simp[LO,LI,vB,tL,Ff,CW,tW]at hm;exact⟨j4 hm.1,hm.2⟩
   have hX:oC [.v ak [.ow e2 ai xs], .v ak [.i .i64 n], .v ak [.sh e2 ys]] ⟨[.v ak [.ow e2 ai zs]],[]⟩ (c8 (dS 500 0))= .o (.row e2 ai zs):=rfl;have CP:∀i j,¬gj zs i j:=by rintro i j ⟨y,x,h1,h2,h3⟩;rw[hzp i y j x h1 h2]at h3;cases h3
   have noInnX:∀i j,¬gj xs i j:=by rintro i j ⟨y,x,h1,h2,h3⟩;rw[iw hp (mR y (aQ h1)) h2]at h3;cases h3
   have Je:∀b,fL c3 (dS 500 0) (.row e2 ai zs) b->p'.nil=ak/\b=p'.blk:=by
    rintro b (⟨h1,h2⟩|⟨_,i,j,h,_⟩)
    ·rw[hP3]at h1 h2;exact⟨h1,h2⟩
    ·exact cJ h (CP i j)
   have hOwn1:p.nil=ak->wO (inj [.v ak [.ow e2 ai xs], .v ak [.i .i64 n], .v ak [.sh e2 ys]]) c1 p.blk:=λhn=>⟨_,_,m9, .inl ⟨by rw[hpd];exact hn,by rw[hpd]⟩⟩
   have zE:p'.nil=ak->p'.blk=w.heap.size\/wO (inj [.v ak [.ow e2 ai xs], .v ak [.i .i64 n], .v ak [.sh e2 ys]]) c1 p'.blk:=λhn=>by
    rcases hI.blk hn with ⟨q1,q2⟩|q
    ·rw[q2];exact .inr (hOwn1 q1)
    ·exact .inl q
   have hKp:∀b,c1.K b->¬(p'.nil=ak/\b=p'.blk):=by
    rintro b hk ⟨hn,rfl⟩;rcases zE hn with h|h
    ·have:=cf.lt _ hk;omega
    ·exact cf.JF h hk
   refine⟨c3,⟨?_, ?_, ?_, ?_, ?_⟩,⟨hI.os,hI.tape,hI.output,hI.size,λb hb=>hb, ?_, ?_,λb hb=> .inl hb⟩, ?_, ?_⟩
   ·intro m o ho;obtain⟨rfl,rfl⟩:=hO m o ho;refine⟨⟨ti,he,by rw[hP3,hI.sz,He],hzsh⟩, ?_,λ_=>⟨λi j h=>cJ h (CP i j),λi j i' j' h=>cJ h (CP i j)⟩⟩
    rw[hP3];refine⟨by rw[hI.n,gf.n,Ll],λhn=> ?_,λhn=> ?_⟩
    ·obtain⟨q1,q2,q3⟩:=hI.nil hn;rw[gf.n]at q2;exact⟨gd (by omega),q1⟩
    ·obtain⟨je,q1,q2,q3,q4,q5,q6,q7⟩:=hI.mem hn;refine⟨je,q1,q2,q3,q4,λk y j x hk hj=> ?_⟩
     simp only[if_true];have hnl:=hzp k y j x hk hj;have j8:j<ti.ks.length:=by rw[<-hzsh y (aQ hk),bU];exact(aT.1 hj).1
     have fin:∀u:bk,Sc u x->je[p'.off+k*p'.sz+j]? =ah u->∃u:bk,je[p'.off+k*p'.sz+j]? =ah u/\XC T w' (c3.G (dS 500 0)) k j u x:=λu h1 h2=>⟨u,h2,uQ (E:=ofTab T) hnl h1⟩
     have pnil:∀(k:aF) (y:az CV),xs[k]? =ah y->p.nil=false:=λk y h=>by
      cases hq:p.nil with
      |false=>rfl
      |true=>have hx:=(gf.nil hq).1;subst hx;cases h
     rw[hI.sz]at fin⊢;rcases hzg k y hk with ⟨r1,r2⟩|⟨r1,r2,r3⟩|⟨r1,r2⟩
     ·obtain⟨u,hu,hsc⟩:=xrel k y j x (pnil k y r2) r2 hj;have hb1:k*p.sz+j<n*p.sz:=by have:=b8 p.sz (show k+1<=n from r1);rw[dp]at this;rw[He]at this⊢;omega
      refine fin u hsc ?_;rw[me];exact q5 _ u hb1 (by rw[<-me];exact hu)
     ·obtain⟨u,hu,hr⟩:=n3 (k-n) y j x r3 hj;have hb1:(k-n)*p.sz+j<ys.length*p.sz:=by have:=b8 p.sz (show k-n+1<=ys.length by omega);rw[dp]at this;rw[He]at this⊢;omega
      refine fin u (pD (E:=ofTab T) hr hnl) ?_;have:=q6 _ hb1;rw[He]at this⊢;rw[hu,<-me,vq]at this;have hmn:n*ti.ks.length<=k*ti.ks.length:=b8 _ r1;rw[<-this];congr 1;omega
     ·obtain⟨u,hu,hsc⟩:=xrel (k-ys.length) y j x (pnil _ y r2) r2 hj;have hkx:k-ys.length<xs.length:=(aT.1 r2).1;have hb1:(k-(n+ys.length))*p.sz+j<(p.n-n)*p.sz:=by have:=b8 p.sz (show k-(n+ys.length)+1<=p.n-n by rw[gf.n];omega);rw[dp]at this;rw[He]at this⊢;omega
      refine fin u hsc ?_;have:=q7 _ u hb1;rw[He]at this hu⊢;have m1:(n+ys.length)*ti.ks.length<=k*ti.ks.length:=b8 _ r1;have e1:(k-(n+ys.length))*ti.ks.length=k*ti.ks.length-(n+ys.length)*ti.ks.length:=vq _ _ _;have e2:(k-ys.length)*ti.ks.length=k*ti.ks.length-ys.length*ti.ks.length:=vq _ _ _;have e3:(n+ys.length)*ti.ks.length=n*ti.ks.length+ys.length*ti.ks.length:=dp _ _ _;rw[e1]at this;rw[e2]at hu;have:=this (by rw[<-hu];congr 2;omega);rw[<-this];congr 1;omega
   ·intro m o m' o' b h1 h2 _ _;obtain⟨rfl,_⟩:=hO m o h1;obtain⟨rfl,_⟩:=hO m' o' h2;rfl
   ·intro m o b h1 h2 h3;obtain⟨rfl,rfl⟩:=hO m o h1;exact hKp b h3 (Je b h2)
   ·intro b hb;exact jy (cf.lt b hb) hI.size
   ·intro m bs h1;obtain⟨_,h2⟩:=hO m _ h1;cases h2
   ·intro b hb Lf;refine hI.old b hb (λhn he=> ?_);subst he;rcases zE hn with h|h
    ·omega
    ·exact Lf h
   ·rintro b ⟨m,o,h1,h2⟩;obtain⟨rfl,rfl⟩:=hO m o h1;obtain⟨q1,rfl⟩:=Je b h2;rcases zE q1 with h|h
    ·exact .inr (by omega)
    ·exact .inl h
   ·intro m hm;have:m≠dS 500 0:=by rintro rfl;apply hm;rfl
    exact⟨bH this,bH this⟩
   ·show qq T w' c3 ak [.own (dS 500 0)] (lW p');show lW p'=lW (c3.P (dS 500 0));rw[hP3]
 ·cases h
end
end Go.FG.Ins

