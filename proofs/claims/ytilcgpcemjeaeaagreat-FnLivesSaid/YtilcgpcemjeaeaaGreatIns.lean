/- slices.Insert at elements of plain cells, over any program that bears its text: a call of it does what is told. No condition but those that are stated. -/
import Derived.Test.YtilcgpcemjeaeaaGreatLib
import Derived.Shelf.Bodies2
import Derived.Shelf.RegionOpenPlain
import Derived.WalkKit
import Derived.Lib.Walk
import Derived.Lib.SliceRun
import Derived.Lib.JoinLaws
import Derived.Lib.AppendZeros
import Derived.Lib.Overlaps
import Derived.Laws.Externs
import Derived.Laws.IdiomCopy
import Derived.Lib.AppendZerosOnto
set_option linter.unusedVariables false
set_option linter.unusedSimpArgs false
set_option maxRecDepth 100000
open Array renaming length_toList->dS,getElem?_toList->cW,getElem?_eq_some_iff->dV,append_assoc->N_,getElem?_append_left->DT,getElem?_eq_none->Hl
open Bool renaming true->ai,false->ak,and_eq_true->aL
open Go renaming Program->cZ,World->bK,Oper->fA,Operand->dx,Value->bj,TypeInfo->JZ
open Go.Act renaming eval->HG,put->Vx
open Go.Builtin renaming copy_->gC,append_->iu,firstCells->fy,lenOf->pq,zeroCells->fP
open Go.Extern.SlicesOverlaps renaming overlaps->fG
open Go.IntKind renaming i64->ao,wrap_i64->pW
open Go.Lib renaming wpList_append_run->tW
open Go.Oper renaming wp->Oc
open Go.Region renaming wanted->u9
open Go.Result renaming andThen_ok->bF
open Go.Sem renaming run_bind->ch,run_pure->cS,run->ng
open Go.Value renaming bool->C2
open Go.World renaming cell?_of_block->uG,shape?->ZB,frozen?->ZA,setRow->lC
open Int renaming toNat_natCast->eQ
open List renaming map_toArray->Dg,map_cons->fB,map_nil->BD,length_take->eJ,length_drop->iA,getElem?_take->d_,getElem?_drop->dR,getElem?_of_mem->bX,getElem?_eq_some_iff->aT,getElem?_eq_getElem->eR,size_toArray->VE,getElem?_toArray->h_,append_assoc->cq,getElem?_append_left->dF,getElem?_append_right->dc,all_eq_true->bu,getElem_mem->bA,mem_of_getElem?->aR,eq_nil_of_length_eq_zero->gg,length_map->bR
open Nat renaming min->Ry,le_refl->cw,eq_zero_or_pos->C3,add_zero->yH,mul_le_mul_right->bZ,add_mul->dp,sub_mul->u_,min_def->Mm,add_assoc->lW,zero_add->bS,beq->bD,eq_of_beq_eq_true->aU,div_lt_iff_lt_mul->yu,mod_lt->C4,div_add_mod->JG,mul_comm->D3,lt_of_lt_of_le->jt
open Option renaming some->ah,none->aj
open Option.some renaming inj->aJ
open Prod.mk renaming inj->bT
open _root_ renaming Nat->aE,Array->dq,List->aC,if_pos->bw,Option->az,Int->ax,if_neg->bG,absurd->cO,Bool->aW,cond_true->au,decide_eq_true_eq->bg
namespace Go.FG.Ins
open Go Go.Shelf Go.RowKit Go.Lib Go.Proofs
structure L (P:cZ) (ρ:Ren) (nm:String) (sz:aE):Prop where
 mixed:P.follows .mixedOrders=ai
 f22:P.funcs[ρ.f 22]? =ah {Body2.n22 ρ with name:=nm}
 t3:P.underlying (ρ.t 3)=ah (TypeDesc.int ao)
 a3:∀w,(Go.isAgg (ρ.t 3)).run P w= .ok ak w
 t4:P.underlying (ρ.t 4)=ah (TypeDesc.bool)
 a4:∀w,(Go.isAgg (ρ.t 4)).run P w= .ok ak w
 t24:P.underlying (ρ.t 24)=ah (TypeDesc.slice (ρ.t 9))
 a24:∀w,(Go.isAgg (ρ.t 24)).run P w= .ok ak w
 z9:∀w,(Go.sizeOf (ρ.t 9)).run P w= .ok sz w
variable {P:cZ} {ρ:Ren} {nm:String} {sz:aE}
theorem wpList_copy(w:bK){ops:dq fA}{rest:aC fA}{o:fA}{a:Act}{Q:Exit->Act->bK->Prop}(hgd:o.guard=aj)(d s:dx)(t t':TypeId)
  (ho:o.op= .call {callee:= .builtin .copy,args:= #[d,s],argTypes:= #[t,t']}) (v u:bj) (hd:a.eval d=v) (hs:a.eval s=u) {v':bj} {w':bK}
  (hr:(gC #[t,t'] o.type #[v,u]).run P w= .ok v' w') (h:wpList P ops Q rest (a.put o.dst v') w'):wpList P ops Q (o::rest) a w:=
 wpList_plain hgd λ_ hK=>by
  unfold Oc execOp;simp only[ho,resolve,invoke,builtin,ch,cS,bF,Dg,fB,BD,hd,hs,hr];exact hK _ _ h
theorem step_copy{ops:dq fA}{o:fA}{a:Act}{w:bK}{K:Act->bK->Prop}{Q:Exit->Act->bK->Prop}{E:Prop}
  (hg:o.guard=aj) (d x:dx) (dT sT:TypeId) (hop:o.op=Op.call {callee:=Callee.builtin Builtin.copy,args:= #[d,x],argTypes:= #[dT,sT]})
  (v u:bj) (hd:a.eval d=v) (hx:a.eval x=u) {v':bj} {w':bK} (hr:(gC #[dT,sT] o.type #[v,u]).run P w= .ok v' w') (hK:K (a.put o.dst v') w'):
  if u9 o (yielded ops a.tmps)=ai then Oc P o a w K Q else E:=by
 have hw:u9 o (yielded ops a.tmps)=true:=by simp[u9,hg]
 rw[bw hw];unfold Oc;simp[execOp,hop,resolve,invoke,builtin,hd,hx,hr,Result.andThen];exact hK
set_option maxHeartbeats 4000000 in
set_option maxRecDepth 100000 in
theorem zero(l:L P ρ nm sz)(w:bK)(A B:az Addr)(n c i vc:aE)(hi:i<=n)(hn:n<=9223372036854775807)(hA:A=aj/\n=0\/∃b o,A=ah ⟨b,o,aj⟩):
  Calls P (ρ.f 22) #[.slice A n c, .int .i64 i, .slice B 0 vc] w λe w'=>e= .returned (.slice A n c)/\w'=w:=by
 have t3:=l.t3;have a3:=l.a3;have t4:=l.t4;have a4:=l.a4;have t24:=l.t24;have a24:=l.a24;have z9:=l.z9;have u3:=run_underlying l.t3;have u4:=run_underlying l.t4;have u24:=run_underlying l.t24;have hb1:(0:ax)<=(i:ax):=by omega
 have Ez:(i:ax)<=(n:ax):=by omega
 go_enter l.f22,Body2.n22_ntmps ρ;rcases hA with ⟨rfl,rfl⟩|⟨b,o,rfl⟩
 ·obtain rfl:i=0:=by omega
  go_wp2;go_ret;exact⟨rfl,rfl⟩
 ·go_wp2;all_goals (go_ret;exact⟨rfl,rfl⟩)
set_option maxHeartbeats 4000000 in
set_option maxRecDepth 100000 in
theorem atEnd(l:L P ρ nm sz)(w w1:bK)(A B:az Addr)(n c m vc:aE)(r:bj)(hm:0<m)(hn:n<=9223372036854775807)(hA:A=aj/\n=0\/∃b o,A=ah ⟨b,o,aj⟩)
  (h1:∀ty,(iu #[ρ.t 24,ρ.t 24] ty #[.slice A n c, .slice B m vc]).run P w= .ok r w1):
  Calls P (ρ.f 22) #[.slice A n c, .int .i64 n, .slice B m vc] w λe w'=>e= .returned r/\w'=w1:=by
 have t3:=l.t3;have a3:=l.a3;have t4:=l.t4;have a4:=l.a4;have t24:=l.t24;have a24:=l.a24;have z9:=l.z9;have u3:=run_underlying l.t3;have u4:=run_underlying l.t4;have u24:=run_underlying l.t24;have JL:¬((m:ax)=0):=by omega
 go_enter l.f22,Body2.n22_ntmps ρ;rcases hA with ⟨rfl,rfl⟩|⟨b,o,rfl⟩
 ·go_wp2_with (at_builtin;refine tW _ rfl _ _ _ _ rfl _ _ rfl rfl _ _ (h1 _) ?_)
  go_ret;exact⟨rfl,rfl⟩
 ·go_wp2_with (at_builtin;refine tW _ rfl _ _ _ _ rfl _ _ rfl rfl _ _ (h1 _) ?_)
  all_goals (go_ret;exact⟨rfl,rfl⟩)
set_option maxHeartbeats 4000000 in
set_option maxRecDepth 100000 in
theorem shift(l:L P ρ nm sz)(w w1 w2:bK)(x1 x2:bj)(b o n c i m vc:aE)(B:az Addr)(hi:i<n)(hm:0<m)(hroom:n+m<=c)(hc63:c<=9223372036854775807)
  (OX:∀lb cb,(callFunc (ρ.f 29) #[.slice B m vc, .slice (ah ⟨b,o+(i+m)*sz,aj⟩) lb cb]).run P w= .ok (.value (.bool ak)) w)
  (h1:∀ty,(gC #[ρ.t 24,ρ.t 24] ty #[.slice (ah ⟨b,o+(i+m)*sz,aj⟩) (n+m-(i+m)) (c-(i+m)), .slice (ah ⟨b,o+i*sz,aj⟩) (n+m-i) (c-i)]).run P w.drew= .ok x1 w1)
  (h2:∀ty,(gC #[ρ.t 24,ρ.t 24] ty #[.slice (ah ⟨b,o+i*sz,aj⟩) (n+m-i) (c-i), .slice B m vc]).run P w1= .ok x2 w2):
  Calls P (ρ.f 22) #[.slice (ah ⟨b,o,aj⟩) n c, .int .i64 i, .slice B m vc] w λe w'=>e= .returned (.slice (ah ⟨b,o,aj⟩) (n+m) c)/\w'=w2:=by
 have t3:=l.t3;have a3:=l.a3;have t4:=l.t4;have a4:=l.a4;have t24:=l.t24;have a24:=l.a24;have z9:=l.z9;have u3:=run_underlying l.t3;have u4:=run_underlying l.t4;have u24:=run_underlying l.t24;have JL:¬((m:ax)=0):=by omega
 have DI:¬((i:ax)=(n:ax)):=by omega
 have mixed:=l.mixed;have hw1:ao.wrap ((i:ax)+(m:ax))=(i:ax)+(m:ax):=by rw[pW];omega
 have hb1:(0:ax)<=(i:ax)+(m:ax):=by omega
 have gz:i<=n:=by omega
 have htn:((i:ax)+(m:ax)).toNat=i+m:=by omega
 have Ez:¬(c=i+m):=by omega
 have hb3:(i:ax)<=(n:ax)+(m:ax):=by omega
 have hb4:¬(c=i):=by omega
 go_enter l.f22,Body2.n22_ntmps ρ;go_wp2_with (simp only[OX])
 go_region_law_o (refine step_copy rfl _ _ (ρ.t 24) (ρ.t 24) rfl _ _ (by simp[HG,Vx]) (by simp[HG,Vx]) (h1 _) ?_);go_wp2_with (at_builtin;refine wpList_copy _ rfl _ _ (ρ.t 24) (ρ.t 24) rfl _ _ rfl rfl (h2 _) ?_)
 go_ret;exact⟨rfl,rfl⟩
set_option maxHeartbeats 4000000 in
set_option maxRecDepth 100000 in
theorem grow(l:L P ρ nm sz)(w w1 w2 w3:bK)(x2 x3:bj)(b o b' n c c' i m vc:aE)(B:az Addr)(hi:i<n)(hm:0<m)(Sj:n<=c)(hroom:c<n+m)(tn:n+m<=9223372036854775807)(Iz:n+m<=c')(hc63:c'<=9223372036854775807)
  (h1:∀ty,(iu #[ρ.t 24,ρ.t 3] ty #[.slice (ah ⟨b,o,aj⟩) i c, .int .i64 ((n:ax)+(m:ax)-(i:ax))]).run P w= .ok (.slice (ah ⟨b',0,aj⟩) (n+m) c') w1)
  (h2:∀ty,(gC #[ρ.t 24,ρ.t 24] ty #[.slice (ah ⟨b',i*sz,aj⟩) (n+m-i) (c'-i), .slice B m vc]).run P w1= .ok x2 w2)
  (h3:∀ty,(gC #[ρ.t 24,ρ.t 24] ty #[.slice (ah ⟨b',(i+m)*sz,aj⟩) (n+m-(i+m)) (c'-(i+m)), .slice (ah ⟨b,o+i*sz,aj⟩) (n-i) (c-i)]).run P w2.drew= .ok x3 w3):
  Calls P (ρ.f 22) #[.slice (ah ⟨b,o,aj⟩) n c, .int .i64 i, .slice B m vc] w λe w'=>e= .returned (.slice (ah ⟨b',0,aj⟩) (n+m) c')/\w'=w3:=by
 have t3:=l.t3;have a3:=l.a3;have t4:=l.t4;have a4:=l.a4;have t24:=l.t24;have a24:=l.a24;have z9:=l.z9;have u3:=run_underlying l.t3;have u4:=run_underlying l.t4;have u24:=run_underlying l.t24;have JL:¬((m:ax)=0):=by omega
 have DI:¬((i:ax)=(n:ax)):=by omega
 have hz3:(c:ax)<(n:ax)+(m:ax):=by omega
 have mixed:=l.mixed;have hw0:ao.wrap ((n:ax)+(m:ax))=(n:ax)+(m:ax):=by rw[pW];omega
 have hw2:ao.wrap ((n:ax)+(m:ax)-(i:ax))=(n:ax)+(m:ax)-(i:ax):=by rw[pW];omega
 have hw1:ao.wrap ((i:ax)+(m:ax))=(i:ax)+(m:ax):=by rw[pW];omega
 have hb1:(0:ax)<=(i:ax)+(m:ax):=by omega
 have gz:i<=n:=by omega
 have htn:((i:ax)+(m:ax)).toNat=i+m:=by omega
 have hGi:¬(c'=i):=by omega
 have hGim:¬(c'=i+m):=by omega
 have hci:¬(c=i):=by omega
 have hic:i<=c:=by omega
 have hb3:(i:ax)<=(n:ax):=by omega
 have hb4:(i:ax)<=(n:ax)+(m:ax):=by omega
 go_enter l.f22,Body2.n22_ntmps ρ
 go_wp2_with (first
  |(at_builtin;refine tW _ rfl _ _ _ _ rfl _ _ rfl rfl _ _ (h1 _) ?_)
  |(at_builtin;refine wpList_copy _ rfl _ _ (ρ.t 24) (ρ.t 24) rfl _ _ rfl rfl (h2 _) ?_))
 go_region_law_o (refine step_copy rfl _ _ (ρ.t 24) (ρ.t 24) rfl (.slice (ah ⟨b',(i+m)*sz,aj⟩) (n+m-(i+m)) (c'-(i+m))) (.slice (ah ⟨b,o+i*sz,aj⟩) (n-i) (c-i)) (by simp[HG,Vx]) (by simp[HG,Vx]) (h3 (ρ.t 3)) ?_);go_wp2;go_ret;exact⟨rfl,rfl⟩
end Go.FG.Ins

namespace Go.FG.Ins
open Go Go.Shelf Go.RowKit Go.Lib Go.Proofs
section
variable {P:cZ}
theorem run_copyG{w:bK}{dT sT ty elem sz b o dLen dCap sLen sCap m:aE}{B:az Addr}{cs:aC bj}{cur:dq bj}(hu:P.underlying dT=ah (.slice elem))(hs:∀w,(sizeOf elem).run P w= .ok sz w)
  (hf:(fy sz m (.slice B sLen sCap)).run P w= .ok cs.toArray w) (hm:Ry sLen dLen=m) (hb:nQ w b cur) (hl:o+cs.length<=cur.size) (h1:∀v∈cs,v.oneCell'=ai):
  (gC #[dT,sT] ty #[.slice (ah (ad b o)) dLen dCap, .slice B sLen sCap]).run P w= .ok (goInt m) (w.setRow b (ed cur o cs)):=by have KR:=nD (P:=P) w hb hl h1;have w_:min sLen dLen=m:=hm;simp[gC,run_underlying hu,pq,hs,w_,hf,KR]
theorem blk_drew{w:bK}{b:aE}{cur:dq bj}(h:nQ w b cur):nQ w.drew b cur:=h
theorem cell_setRow_other{w:bK}{b b2 o:aE}{new:dq bj}(h:b2≠b):(w.setRow b new).cell? (ad b2 o)=w.cell? (ad b2 o):=uG (setRow_other w b b2 _ h)
structure Insd (w w':bK) (p p':Pl) (i m:aE) (news:aC bj):Prop where
 n:p'.n=p.n+m
 sz:p'.sz=p.sz
 nil:p'.nil=ai->p'.cap=0/\p.n=0/\m=0
 mem:p'.nil=ak->∃i9,nQ w' p'.blk i9/\p'.n<=p'.cap/\p'.cap<=maxLen/\p'.off+p'.cap*p'.sz<=i9.size/\
  (∀k u,k<i*p.sz->w.cell? (ad p.blk (p.off+k))=ah u->i9[p'.off+k]? =ah u)/\(∀k,k<m*p.sz->i9[p'.off+i*p.sz+k]? =news[k]?)/\
  (∀k u,k<(p.n-i)*p.sz->w.cell? (ad p.blk (p.off+i*p.sz+k))=ah u->i9[p'.off+(i+m)*p.sz+k]? =ah u)
 blk:p'.nil=ak->(p.nil=ak/\p'.blk=p.blk)\/p'.blk=w.heap.size
 old:∀b,b<w.heap.size->(p'.nil=ak->b≠p'.blk)->w'.heap[b]? =w.heap[b]?
 size:w.heap.size<=w'.heap.size
 os:w'.os=w.os
 tape:w'.tape=w.tape
 output:w'.output=w.output
structure Pre (w:bK) (p:Pl):Prop where
 nil:p.nil=ai->p.n=0/\p.cap=0
 mem:p.nil=ak->∃vals,nQ w p.blk vals/\p.n<=p.cap/\p.cap<=maxLen/\p.off+p.cap*p.sz<=vals.size
variable {ρ:Ren} {nm:String}
theorem overlaps_false{w:bK}{tS tR e:TypeId}(ht:P.underlying tS=ah (.slice e)){size:aE}(hz:∀w,(Go.sizeOf e).run P w= .ok size w){B:az Addr}{m vc b o:aE}{vals:dq bj}(hb:nQ w b vals)(ho:o<vals.size)
  (hB:∀a,B=ah a->0<m->a.block≠b/\∃t k,w.shape? a.block=ah (t,k+1)) (lb cb:aE):
  (fG #[tS,tS] #[tR] #[.slice B m vc, .slice (ah (ad b o)) lb cb]).run P w= .ok (.bool ak) w:=by
 obtain⟨t,fr,hg,C6⟩:=hb;have hsb:w.shape? b=ah (t,vals.size):=by simp[ZB,hg]
 have f1:w.frozen? ⟨b,o,aj⟩=false:=by have:=C6 o (by omega);simpa [ZA,hg]using this
 have f2:w.frozen? ⟨b,vals.size,aj⟩=false:=by have:=C6 vals.size (cw _);simpa [ZA,hg]using this
 have hne0:vals.size≠0:=by omega
 change ng P (α:=bj) (do
  let ah t:=(#[tS,tS]:dq TypeId)[0]? |stuck "slices.overlaps: no parameter types"
  let .slice elem<-underlying t|stuck "slices.overlaps: slice type expected"
  let size<-sizeOf elem
  match B,(ah (ad b o):az Addr)with
  |some a,ah b=>
   if m=0\/lb=0\/size=0 then pure (C2 ak)
   else if a.block !=b.block&&(<-frozen a)&&(<-frozen b)then unsupported .addressObserved
   else do
    if a.block !=b.block then do
     noView a;noView b
     if<-mayBeOne a b then return C2 ((<-choose (.extern "sameAddr.stringBytes" 2))==1)
    pure (C2 (a.block==b.block&&a.off<b.off+lb*size&&b.off<a.off+m*size))
  |_,_=>pure (C2 ak)) w=_
 cases B with
 |none=>simp[run_underlying ht,hz]
 |some a=>
  by_cases h0:m=0\/lb=0\/size=0
  ·simp[run_underlying ht,hz,h0]
  ·have hm:0<m:=by omega
   obtain⟨iw,ta,k,hsa⟩:=hB a rfl hm;have KP:(a.block !=b)=true:=by simpa using iw
   have hnb':(a.block==b)=false:=by simpa using iw
   obtain⟨n,hn⟩:∃n,vals.size=n+1:=⟨vals.size-1,by omega⟩
   rw[hn]at hsb f2;simp[run_underlying ht,hz,h0,KP,hnb',iw,frozen,noView,viewAt,mayBeOne,stringish,shape,ng,hsa,hsb,f1,f2]
theorem first_of{w:bK}{sz m b o len cap:aE}{cs:aC bj}(hl:cs.length=m*sz)(h:∀j u,cs[j]? =ah u->w.cell? (ad b (o+j))=ah u):(fy sz m (.slice (ah (ad b o)) len cap)).run P w= .ok cs.toArray w:=
 run_firstCells_some w sz m _ _ _ cs hl (λj v hj=>by rw[Addr.nV];exact h j v hj)
theorem insert_run{sz:aE}(l:L P ρ nm sz){inf:JZ}{z:bj}(hi:P.info? (ρ.t 9)=ah inf)(hz:inf.zero=ah z)(P7:z.cells.size=sz)(gi:inf.size=sz)(kZ:0<sz)
  (OX:∀args w,(callFunc (ρ.f 29) args).run P w=((fG #[ρ.t 24,ρ.t 24] #[ρ.t 4] args).run P w).andThen λv w'=> .ok (.value v) w')
  {w:bK} {p:Pl} (hp:p.sz=sz) (pre:Pre w p) {i m vc:aE} {B:az Addr} {news:aC bj} (gz:i<=p.n) (hv:news.length=m*sz) (hB:m=0\/∃b2 o2,B=ah (ad b2 o2)/\(p.nil=ak->b2≠p.blk)/\∀j u,news[j]? =ah u->w.cell? (ad b2 (o2+j))=ah u)
  (xB:∀v∈news,v.oneCell'=ai) (h1:(p.n+m)*inf.bytes<=140737488355328) (h2:p.n+m<=9223372036854775807) (hone2:∀vals k v,p.nil=ak->nQ w p.blk vals->k<p.n*sz->vals[p.off+k]? =ah v->v.oneCell'=ai):
  ∃p' w',Insd w w' p p' i m news/\Calls P (ρ.f 22) #[lO p, .int .i64 i, .slice B m vc] w (λe w2=>e= .returned (lO p')/\w2=w'):=by
 subst hp;have hnm:p.n<=9223372036854775807:=by omega
 rcases C3 m with rfl|hm
 ·refine⟨p,w,⟨rfl,rfl,λh=>⟨(pre.nil h).2,(pre.nil h).1,rfl⟩,λh=> ?_,λh=> .inl ⟨h,rfl⟩,λ_ _ _=>rfl,cw _,rfl,rfl,rfl⟩, ?_⟩
  ·obtain⟨vals,hb,q1,q2,q3⟩:=pre.mem h;refine⟨vals,hb,q1,q2,q3,λk u _ hu=>by rw[<-hb.cell];exact hu,λk hk=>by simp at hk,λk u _ hu=> ?_⟩
   rw[<-hb.cell,yH];exact hu
  ·cases hq:p.nil with
   |true=>have h0:=(pre.nil hq).1;rw[nB hq];have:=zero l w aj B 0 0 i vc (by omega) (by omega) (.inl ⟨rfl,rfl⟩);exact this
   |false=>rw[e6 hq];exact zero l w _ B p.n p.cap i vc gz hnm (.inr ⟨_,_,rfl⟩)
 ·obtain⟨b2,o2,rfl,Ez,hcell⟩:=hB.resolve_left (by omega);by_cases hend:i=p.n
  ·subst hend;have happ:App P w (ρ.t 24) (.slice (ah (ad b2 o2)) m vc) z.cells p.sz m news:=by refine⟨.inl ⟨.inl ⟨_,l.t24⟩,by simp[pq],first_of hv hcell,first_of (w:=w.drew) hv hcell⟩,hv,xB⟩
   obtain⟨p',w',hr,hA⟩:=tI (P:=P) (w:=w) (t:=ρ.t 24) (u:=ρ.t 24) (ty:=0) (p:=p) l.t24 hi hz P7 gi (λh=>(pre.nil h).1) pre.mem happ h1 h2;refine⟨p',w',⟨hA.n,hA.sz,hA.nil,λh=> ?_,hA.blk,hA.old,hA.size,hA.os,hA.tape,hA.output⟩, ?_⟩
   ·obtain⟨i9,q1,q2,q3,q4,q5,q6⟩:=hA.mem h;exact⟨i9,q1,q2,q3,q4,q5,q6,λk u hk _=>by simp at hk⟩
   ·have DE:∀ty,(iu #[ρ.t 24,ρ.t 24] ty #[lO p, .slice (ah (ad b2 o2)) m vc]).run P w= .ok (lO p') w':=λty=>hr;cases hq:p.nil with
    |true=>have h0:=(pre.nil hq).1;rw[nB hq]at DE⊢;have:=atEnd l w w' aj (ah (ad b2 o2)) 0 0 m vc (lO p') hm (by omega) (.inl ⟨rfl,rfl⟩) DE;rw[h0];exact this
    |false=>rw[e6 hq]at DE⊢;exact atEnd l w w' _ (ah (ad b2 o2)) p.n p.cap m vc (lO p') hm hnm (.inr ⟨_,_,rfl⟩) DE
  ·have jm:i<p.n:=by omega
   have hq:p.nil=false:=by
    cases h:p.nil with
    |false=>rfl
    |true=>have:=(pre.nil h).1;omega
   obtain⟨vals,hb,Sj,W2,mD⟩:=pre.mem hq;have iw:=Ez hq;rw[e6 hq];have m1:i*p.sz<=p.n*p.sz:=bZ _ gz;have m2:p.n*p.sz<=p.cap*p.sz:=bZ _ Sj;have e1:(i+m)*p.sz=i*p.sz+m*p.sz:=dp _ _ _;have e2:(p.n-i)*p.sz=p.n*p.sz-i*p.sz:=u_ _ _ _;have m0:i*p.sz+p.sz<=p.n*p.sz:=by have:=bZ p.sz (show i+1<=p.n by omega);rwa[dp,Nat.one_mul]at this
   have hp0:p.sz<=m*p.sz:=Nat.le_mul_of_pos_left _ hm;have n1:Ry (p.n+m-i) (p.n+m-(i+m))=p.n-i:=by simp only[Mm];split<;>omega
   have n2:Ry m (p.n+m-i)=m:=by simp only[Mm];split<;>omega
   have n3:Ry (p.n-i) (p.n+m-(i+m))=p.n-i:=by simp only[Mm];split<;>omega
   let tail:=(vals.toList.drop (p.off+i*p.sz)).take ((p.n-i)*p.sz);have htl:tail.length=(p.n-i)*p.sz:=by simp only[tail,eJ,iA,dS];omega
   have htg:∀k,k<(p.n-i)*p.sz->tail[k]? =vals[p.off+i*p.sz+k]? :=λk hk=>by simp only[tail,d_,bw hk,dR,cW]
   have ht1:∀v∈tail,v.oneCell'=true:=λv hv=>by
    obtain⟨k,hk⟩:=bX hv;have DD:k<(p.n-i)*p.sz:=by rw[<-htl];exact(aT.1 hk).1
    rw[htg k DD]at hk;exact hone2 vals (i*p.sz+k) v hq hb (by omega) (by rw[<-lW];exact hk)
   by_cases hroom:p.n+m<=p.cap
   ·-- in place
    have m3:(p.n+m)*p.sz<=p.cap*p.sz:=bZ _ hroom;rw[dp]at m3;have M8:p.off+(i+m)*p.sz+tail.length<=vals.size:=by rw[htl];omega
    have hb1:nQ (w.drew.setRow p.blk (ed vals (p.off+(i+m)*p.sz) tail)) p.blk (ed vals (p.off+(i+m)*p.sz) tail):=nQ.setRow (w:=w.drew) (blk_drew hb) (e8 M8);have KO:p.off+i*p.sz+news.length<=(ed vals (p.off+(i+m)*p.sz) tail).size:=by rw[e8 M8,hv];omega
    have c1:∀ty,(gC #[ρ.t 24,ρ.t 24] ty #[.slice (ah ⟨p.blk,p.off+(i+m)*p.sz,aj⟩) (p.n+m-(i+m)) (p.cap-(i+m)), .slice (ah ⟨p.blk,p.off+i*p.sz,aj⟩) (p.n+m-i) (p.cap-i)]).run P w.drew= .ok (goInt ((p.n-i:aE):ax)) (w.drew.setRow p.blk (ed vals (p.off+(i+m)*p.sz) tail)):=λty=>
     run_copyG (P:=P) (w:=w.drew) l.t24 l.z9 (first_of (w:=w.drew) htl (λj u hj=>by
      have jW:j<(p.n-i)*p.sz:=by rw[<-htl];exact(aT.1 hj).1
      rw[htg j jW]at hj;exact(hb.cell _).trans hj)) n1 (blk_drew hb) M8 ht1
    have c2:∀ty,(gC #[ρ.t 24,ρ.t 24] ty #[.slice (ah ⟨p.blk,p.off+i*p.sz,aj⟩) (p.n+m-i) (p.cap-i), .slice (ah (ad b2 o2)) m vc]).run P (w.drew.setRow p.blk (ed vals (p.off+(i+m)*p.sz) tail))= .ok (goInt m) ((w.drew.setRow p.blk (ed vals (p.off+(i+m)*p.sz) tail)).setRow p.blk (ed (ed vals (p.off+(i+m)*p.sz) tail) (p.off+i*p.sz) news)):=λty=>
     run_copyG (P:=P) l.t24 l.z9 (first_of hv (λj u hj=>by rw[cell_setRow_other iw];exact hcell j u hj)) n2 hb1 KO xB
    have hcal:=shift l w _ _ _ _ p.blk p.off p.n p.cap i m vc (ah (ad b2 o2)) jm hm hroom W2 (λlb cb=>by
     rw[OX,overlaps_false (P:=P) (w:=w) l.t24 l.z9 hb (o:=p.off+(i+m)*p.sz) (by omega) (λa ha _=>by
      cases ha;have h0:0<news.length:=by rw[hv];omega
      have:=hcell 0 _ (eR h0);refine⟨iw, ?_⟩
      unfold World.cell? at this;unfold ZB;split at this
      ·rename_i cc tt ff hg;rw[hg];simp at this;obtain⟨hlt2,_⟩:=dV.1 this;exact⟨tt,cc.size-1,by simp;omega⟩
      ·cases this) lb cb]
     rfl) c1 c2
    refine⟨⟨ak,p.blk,p.off,p.cap,p.n+m,p.sz⟩,(w.drew.setRow p.blk (ed vals (p.off+(i+m)*p.sz) tail)).setRow p.blk (ed (ed vals (p.off+(i+m)*p.sz) tail) (p.off+i*p.sz) news),⟨rfl,rfl,λh=>(by cases h),λ_=> ?_,λ_=> .inl ⟨hq,rfl⟩,λb P3 KP=> ?_,by simp[lC],rfl,rfl,rfl⟩,by rw[e6 rfl];exact hcal⟩
    ·refine⟨_,hb1.setRow (e8 KO),hroom,W2,by rw[e8 KO,e8 M8];exact mD,λk u hk hu=> ?_,λk hk=> ?_,λk u hk hu=> ?_⟩
     ·show(ed (ed vals (p.off+(i+m)*p.sz) tail) (p.off+i*p.sz) news)[p.off+k]? =ah u;rw[gu KO,bG (by omega),gu M8,bG (by omega),<-hb.cell];exact hu
     ·show(ed (ed vals (p.off+(i+m)*p.sz) tail) (p.off+i*p.sz) news)[p.off+i*p.sz+k]? =news[k]?;rw[gu KO,bw (by rw[hv];omega)];congr 1;omega
     ·show(ed (ed vals (p.off+(i+m)*p.sz) tail) (p.off+i*p.sz) news)[p.off+(i+m)*p.sz+k]? =ah u;rw[gu KO,bG (by rw[hv];omega),gu M8,bw (by rw[htl];omega),show p.off+(i+m)*p.sz+k-(p.off+(i+m)*p.sz)=k by omega,htg k hk,<-hb.cell];exact hu
    ·have hbne:b≠p.blk:=KP rfl;rw[setRow_other _ _ b _ hbne,setRow_other _ _ b _ hbne];rfl
   ·-- a new row
    have hgo:p.cap<p.n+m:=by omega
    let pf:=(vals.toList.drop p.off).take (i*p.sz);have EA:pf.length=i*p.sz:=by simp only[pf,eJ,iA,dS];omega
    have hog:∀k,k<i*p.sz->pf[k]? =vals[p.off+k]? :=λk hk=>by simp only[pf,d_,bw hk,dR,cW]
    have VS:i+(p.n+m-i)=p.n+m:=by omega
    have Sh:(p.n:ax)+(m:ax)-(i:ax)=((p.n+m-i:aE):ax):=by omega
    have hold:(fy inf.size i (.slice (ah (ad p.blk p.off)) i p.cap)).run P w.drew= .ok pf.toArray w.drew:=by
     rw[gi];exact first_of (w:=w.drew) EA (λj u hj=>by
      have jW:j<i*p.sz:=by rw[<-EA];exact(aT.1 hj).1
      rw[hog j jW]at hj;exact(hb.cell _).trans hj)
    have hG:=grownCap_ge w (p.n+m) p.cap (ρ.t 9);have hG2:=grownCap_le_maxLen w (p.n+m) p.cap (ρ.t 9) (by unfold maxLen;omega);generalize hGd:grownCap w (p.n+m) p.cap (ρ.t 9)=G at hG hG2;obtain⟨arr,harr⟩:∃arr:dq bj,arr=pf.toArray++fP z.cells (p.n+m-i)++fP z.cells (G-(p.n+m)):=⟨_,rfl⟩
    have a1:∀ty,(iu #[ρ.t 24,ρ.t 3] ty #[.slice (ah ⟨p.blk,p.off,aj⟩) i p.cap, .int .i64 ((p.n:ax)+(m:ax)-(i:ax))]).run P w= .ok (.slice (ah ⟨w.heap.size,0,aj⟩) (p.n+m) G) (w.drew.alloc (.cells arr (ρ.t 9))):=λty=>by have hmb:(p.n+m-i)*inf.bytes<=(p.n+m)*inf.bytes:=bZ _ (by omega);have h:=Lib.run_append_grow_zeros w (ρ.t 24) (ρ.t 3) ty (ρ.t 9) inf z .i64 .i64 l.t24 l.t3 hi hz (ah (ad p.blk p.off)) i p.cap pf hold (p.n+m-i) (by omega) (by omega) (by omega) (by omega) (by omega) (by rw[VS];exact growslice_fits hgo h1);rw[VS,hGd,<-harr]at h;rw[Sh];exact h
    have sarr:arr.size=i*p.sz+(p.n+m-i)*p.sz+(G-(p.n+m))*p.sz:=by rw[harr];simp only[Array.size_append,VE,size_zeroCells,P7,EA]
    have e3:(p.n+m-i)*p.sz=p.n*p.sz+m*p.sz-i*p.sz:=by rw[u_,dp]
    have e4:G*p.sz=(p.n*p.sz+m*p.sz)+(G-(p.n+m))*p.sz:=by rw[<-dp,<-dp];congr 1;omega
    have hbw:p.blk<w.heap.size:=hb.lt;have hb0:nQ (w.drew.alloc (.cells arr (ρ.t 9))) w.heap.size arr:=nQ.alloc w.drew arr _;have M8:i*p.sz+news.length<=arr.size:=by rw[sarr,hv];omega
    have hb1:=hb0.setRow (new:=ed arr (i*p.sz) news) (e8 M8);have KO:(i+m)*p.sz+tail.length<=(ed arr (i*p.sz) news).size:=by rw[e8 M8,sarr,htl];omega
    have hb2w:b2<w.heap.size:=by
     have h0:0<news.length:=by rw[hv];omega
     exact block_lt_of_cell (hcell 0 _ (eR h0))
    have oldc:∀b o,b<w.heap.size->(w.drew.alloc (.cells arr (ρ.t 9))).cell? (ad b o)=w.cell? (ad b o):=λb o hbl=>uG (heap_alloc_old w.drew _ hbl);have c1:∀ty,(gC #[ρ.t 24,ρ.t 24] ty #[.slice (ah ⟨w.heap.size,i*p.sz,aj⟩) (p.n+m-i) (G-i), .slice (ah (ad b2 o2)) m vc]).run P (w.drew.alloc (.cells arr (ρ.t 9)))= .ok (goInt m) ((w.drew.alloc (.cells arr (ρ.t 9))).setRow w.heap.size (ed arr (i*p.sz) news)):=λty=>
     run_copyG (P:=P) l.t24 l.z9 (first_of hv (λj u hj=>by rw[oldc _ _ hb2w];exact hcell j u hj)) n2 hb0 M8 xB
    have c2:∀ty,(gC #[ρ.t 24,ρ.t 24] ty #[.slice (ah ⟨w.heap.size,(i+m)*p.sz,aj⟩) (p.n+m-(i+m)) (G-(i+m)), .slice (ah ⟨p.blk,p.off+i*p.sz,aj⟩) (p.n-i) (p.cap-i)]).run P ((w.drew.alloc (.cells arr (ρ.t 9))).setRow w.heap.size (ed arr (i*p.sz) news)).drew= .ok (goInt ((p.n-i:aE):ax)) (((w.drew.alloc (.cells arr (ρ.t 9))).setRow w.heap.size (ed arr (i*p.sz) news)).drew.setRow w.heap.size (ed (ed arr (i*p.sz) news) ((i+m)*p.sz) tail)):=λty=>
     run_copyG (P:=P) (w:=((w.drew.alloc (.cells arr (ρ.t 9))).setRow w.heap.size (ed arr (i*p.sz) news)).drew) l.t24 l.z9 (first_of htl (λj u hj=>by
      have jW:j<(p.n-i)*p.sz:=by rw[<-htl];exact(aT.1 hj).1
      rw[htg j jW]at hj;show((w.drew.alloc (.cells arr (ρ.t 9))).setRow w.heap.size (ed arr (i*p.sz) news)).cell? (ad p.blk (p.off+i*p.sz+j))=ah u;rw[cell_setRow_other (by omega),oldc _ _ hbw];exact(hb.cell _).trans hj)) n3 (blk_drew hb1) KO ht1
    have hcal:=grow l w _ _ _ _ _ p.blk p.off w.heap.size p.n p.cap G i m vc (ah (ad b2 o2)) jm hm Sj hgo h2 hG hG2 a1 c1 c2;refine⟨⟨ak,w.heap.size,0,G,p.n+m,p.sz⟩,((w.drew.alloc (.cells arr (ρ.t 9))).setRow w.heap.size (ed arr (i*p.sz) news)).drew.setRow w.heap.size (ed (ed arr (i*p.sz) news) ((i+m)*p.sz) tail),⟨rfl,rfl,λh=>(by cases h),λ_=> ?_,λ_=> .inr rfl,λb P3 KP=> ?_,by simp[lC],rfl,rfl,rfl⟩,by rw[e6 rfl];exact hcal⟩
    ·refine⟨_,nQ.setRow (w:=((w.drew.alloc (.cells arr (ρ.t 9))).setRow w.heap.size (ed arr (i*p.sz) news)).drew) (blk_drew hb1) (e8 KO),hG,hG2,by rw[e8 KO,e8 M8,sarr];show 0+G*p.sz<=_;omega,λk u hk hu=> ?_,λk hk=> ?_,λk u hk hu=> ?_⟩
     ·show(ed (ed arr (i*p.sz) news) ((i+m)*p.sz) tail)[0+k]? =ah u;rw[bS,gu KO,bG (by omega),gu M8,bG (by omega),harr,N_,DT (by simp[EA];omega),h_,hog k hk,<-hb.cell];exact hu
     ·show(ed (ed arr (i*p.sz) news) ((i+m)*p.sz) tail)[0+i*p.sz+k]? =news[k]?;rw[bS,gu KO,bG (by omega),gu M8,bw (by rw[hv];omega)];congr 1;omega
     ·show(ed (ed arr (i*p.sz) news) ((i+m)*p.sz) tail)[0+(i+m)*p.sz+k]? =ah u;rw[bS,gu KO,bw (by rw[htl];omega),show(i+m)*p.sz+k-(i+m)*p.sz=k by omega,htg k hk,<-hb.cell];exact hu
    ·have hbne:b≠w.heap.size:=by omega
     rw[setRow_other _ _ b _ hbne];show((w.drew.alloc (.cells arr (ρ.t 9))).setRow w.heap.size (ed arr (i*p.sz) news)).heap[b]? =_;rw[setRow_other _ _ b _ hbne,heap_alloc_old w.drew _ P3];rfl
end
end Go.FG.Ins

namespace Go.FG.Ins
open Go Go.Shelf Go.RowKit Go.Lib Go.Proofs
abbrev ofTab(T:Tab):fU:={toTab:=T,call:=λ_ _=>aj,om:=λ_ _=> .nat,mode:=λ_ _=>ak,keep:=λ_=>[],tk:=λ_=>false}
theorem holdsK{T:Tab}{w:bK}{K:aE->Prop}{v:bj}{e:aE}{ys:aQ}(h:da T w K v (.l e ys))(h0:ys≠[]){b o n c:aE}(hv:v= .slice (ah (ad b o)) n c):K b:=by
 cases h with
 |nl=>exact cO rfl h0
 |l e xs b' o' c' Vh U ht hc hm hK hs hcell gz=>cases hv;exact hK
def xD(e bytes:aE):aC fa->az (aW×dz)
 |[.v ak [.ow e1 ai xs], .v ak [.i .i64 i], .v ak [.sh e2 ys]]=>bif bD e1 e&&bD e2 e then
  ah (decide (0<=i)&&decide (i<=(xs.length:ax))&&cg (xs.length+ys.length) bytes,⟨[.v ak [.ow e ai (Pu.tu xs i.toNat ys)]],[]⟩)else aj
 |_=>aj
theorem insR_get{xs ys:aQ}{i:aE}(h:i<=xs.length)(k:aE)(y:aC CV)(hk:(Pu.tu xs i ys)[k]? =ah y):
  (k<i/\xs[k]? =ah y)\/(i<=k/\k<i+ys.length/\ys[k-i]? =ah y)\/(i+ys.length<=k/\xs[k-ys.length]? =ah y):=by
 unfold Pu.tu at hk;have hl:(xs.take i).length=i:=by simp;omega
 by_cases h1:k<i
 ·rw[cq,dF (by omega),d_,bw h1]at hk;exact .inl ⟨h1,hk⟩
 ·by_cases h2:k<i+ys.length
  ·rw[cq,dc (by omega),hl,dF (by omega)]at hk;exact .inr (.inl ⟨by omega,h2,hk⟩)
  ·rw[dc (by simp;omega),dR]at hk;refine .inr (.inr ⟨by omega, ?_⟩);rw[<-hk];congr 1;simp;omega
theorem kY{P:cZ}{t:aE}{d:TypeDesc}(h:P.underlying t=ah d)(hb:rI d=ai)(w:bK):(Go.isAgg t).run P w= .ok ak w:=by simp only[Go.isAgg,ch,run_underlying h,bF];cases d<;>simp_all [rI]
theorem G9{P:cZ}{T:Tab}(hE:eC P T){t:aE}{ti:TI}(h:T.ty t=ah ti)(w:bK):(sizeOf t).run P w= .ok ti.ks.length w:=by obtain⟨inf,hi,hs,_⟩:=hE.info t ti h;simp only[sizeOf,typeInfo,program,ch,ng,bF,hi,hs,cS]
section
variable {P:cZ} {ρ:Ren} {nm:String} {T:Tab}
theorem zn{e:aE}{te:TI}(he:T.ty e=ah te)(hρ:ρ.t 9=e)(hp:plain te.ks=ai)(hE:eC P T)(l:L P ρ nm te.ks.length)
  (OX:∀args w,(callFunc (ρ.f 29) args).run P w=((fG #[ρ.t 24,ρ.t 24] #[ρ.t 4] args).run P w).andThen λv w'=> .ok (.value v) w')
  (hfn:∃fn,P.funcs[ρ.f 22]? =ah fn/\fn.body.isSome=ai/\(fn.name== "runtime.NumGoroutine")=ak):b7 P T (ρ.f 22) (xD e te.bytes):=by
 have xA:K9 te.ks=true:=bu.2 λk hk=>by have:=bu.1 hp k hk;cases k<;>simp_all
 obtain⟨inf,hi,gi,hby,kZ,hzz⟩:=hE.info e te he;obtain⟨z,hz,hzc,_⟩:=hzz xA;have P7:z.cells.size=te.ks.length:=by rw[hzc];simp
 intro args r h w c1 vs cf hs hv;refine⟨hfn, ?_⟩
 unfold xD at h;split at h
 ·rename_i e1 xs i e2 ys;cases hb:(bD e1 e&&bD e2 e)with
  |false=>rw[hb]at h;cases h
  |true=>
   rw[hb,au]at h;simp only[aL]at hb;have:=aU hb.1;subst this;have:=aU hb.2;subst this;have h:=aJ h;obtain⟨hc,rfl⟩:=bT h;simp only[aL,bg,cg]at hc;obtain⟨⟨c0,c2⟩,c3,c4⟩:=hc;obtain⟨v0,g0,s0⟩:=hv 0 _ rfl;obtain⟨v1,g1,s1⟩:=hv 1 _ rfl;obtain⟨v2,g2,s2⟩:=hv 2 _ rfl;have Su:vs= #[v0,v1,v2]:=by
    have h3:vs.size=3:=hs;apply Array.ext_getElem?;intro k;match k with
    |0=>rw[g0];rfl
    |1=>rw[g1];rfl
    |2=>rw[g2];rfl
    |k+3=>rw[Hl (by omega),Hl (by simp)]
   subst Su;have s0:v0=lO (c1.P (dU 0 0)):=s0;have s1:v1= .int .i64 i:=s1;have s2:da T w c1.K v2 (.l e2 ys):=s2;subst s0;subst s1;have mS:inj [.v ak [.ow e2 ai xs], .v ak [.i .i64 i], .v ak [.sh e2 ys]] (c_ (dU 0 0))= .o (.row e2 ai xs):=rfl;obtain⟨⟨ti,ht,GJ,mG⟩,gh,IE⟩:=cf.obj _ _ mS;have hti:ti=te:=aJ (ht.symm.trans he);subst hti;generalize hpd:c1.P (dU 0 0)=p at gh GJ;have pre:Pre w p:=⟨λh=>by have:=gh.nil h;exact⟨by rw[gh.n,this.1];rfl,this.2⟩,λh=>by obtain⟨vals,q1,q2,q3,q4,_⟩:=gh.mem h;exact⟨vals,q1,q2,q3,q4⟩⟩
   obtain⟨n,rfl⟩:∃n:aE,i=(n:ax):=⟨i.toNat,by omega⟩
   have hnx:n<=xs.length:=by omega
   have DG:=zF (E:=ofTab T) he s2;have IP:∀y∈ys,y.length=ti.ks.length:=λy hy=>by rw[<-DG.2 y hy];simp
   have Xh:∀y∈xs,y.length=ti.ks.length:=λy hy=>by rw[<-mG y hy];simp
   obtain⟨B,vc,news,M_,n1,n2,n3⟩:=DG.1.list IP;have cellOf:∀k,k<ys.length*ti.ks.length->∃y x,ys[k/ti.ks.length]? =ah y/\y[k%ti.ks.length]? =ah x/\k/ti.ks.length*ti.ks.length+k%ti.ks.length=k:=by
    intro k hk;have h1:k/ti.ks.length<ys.length:=by rw[yu kZ];exact hk
    have h2:k%ti.ks.length<ys[k/ti.ks.length].length:=by rw[IP _ (bA h1)];exact C4 _ kZ
    refine⟨_,_,eR h1,eR h2, ?_⟩
    have:=JG k ti.ks.length;rw[D3]at this;exact this
   have xB:∀v∈news,v.oneCell'=true:=λv hv=>by
    obtain⟨k,hk⟩:=bX hv;have DD:k<ys.length*ti.ks.length:=by rw[<-n1];exact(aT.1 hk).1
    obtain⟨y,x,q1,q2,q3⟩:=cellOf k DD;obtain⟨u,hu,hr⟩:=n3 _ _ _ _ q1 q2;rw[q3,hk]at hu;cases hu;exact da.one (E:=ofTab T) hr
   have hKne:∀b,c1.K b->p.nil=ak->b≠p.blk:=λb hk hn he=>by exact cf.kk _ _ p.blk mS (.inl ⟨by rw[hpd];exact hn,by rw[hpd]⟩) (he▸hk)
   have hB:ys.length=0\/∃b2 o2,B=ah (ad b2 o2)/\(p.nil=ak->b2≠p.blk)/\∀j u,news[j]? =ah u->w.cell? (ad b2 (o2+j))=ah u:=by
    rcases n2 with rfl|⟨b2,o2,rfl,hc2⟩
    ·exact .inl rfl
    ·by_cases h0:ys=[]
     ·subst h0;exact .inl rfl
     ·refine .inr ⟨b2,o2,rfl,λhn=> ?_,hc2⟩;exact hKne _ (holdsK s2 h0 M_) hn
   have xrel:∀(k:aE) (y:aC CV) (j:aE) (x:CV),p.nil=ak->xs[k]? =ah y->y[j]? =ah x->∃u,w.cell? (ad p.blk (p.off+k*p.sz+j))=ah u/\Sc u x:=by intro k y j x hn hk hj;obtain⟨vals,q1,q2,q3,q4,q5⟩:=gh.mem hn;obtain⟨u,hu,hr⟩:=q5 k y j x hk hj;rw[bw rfl]at hr;exact⟨u,by rw[q1.cell];exact hu,uB (E:=ofTab T) hr (iq hp (mG y (aR hk)) hj)⟩
   have hone2:∀vals k v,p.nil=ak->nQ w p.blk vals->k<p.n*p.sz->vals[p.off+k]? =ah v->v.oneCell'=true:=by
    intro vals k v hn hbv hk hkv;rw[GJ]at hk;have h1:k/ti.ks.length<xs.length:=by rw[yu kZ,<-gh.n];exact hk
    have h2:k%ti.ks.length<xs[k/ti.ks.length].length:=by rw[Xh _ (bA h1)];exact C4 _ kZ
    obtain⟨u,hu,hsc⟩:=xrel _ _ _ _ hn (eR h1) (eR h2);have:=JG k ti.ks.length;rw[D3]at this;rw[GJ,show p.off+k/ti.ks.length*ti.ks.length+k%ti.ks.length=p.off+k by omega,hbv.cell,hkv]at hu;cases hu;rw[hsc.1];exact Jv
   rw[M_];obtain⟨p',w',hI,hcal⟩:=insert_run (P:=P) (sz:=ti.ks.length) l (by rw[hρ];exact hi) hz P7 gi kZ OX GJ pre (i:=n) (m:=ys.length) (vc:=vc) (by rw[gh.n];exact hnx) n1 hB xB (by rw[gh.n,hby];exact c3) (by rw[gh.n];exact c4) (λvals k v h1 h2 h3 h4=>hone2 vals k v h1 h2 (by rw[GJ];exact h3) h4);refine hcal.mono ?_;intro e1 w2 hh;rw[hh.1,hh.2];show Rz T _ _ c1 w (lO p') w';rw[eQ];generalize hzd:Pu.tu xs n ys=zs;have KU:zs.length=xs.length+ys.length:=by rw[<-hzd];unfold Pu.tu;simp;omega
   have hzg:∀(k:aE) (y:aC CV),zs[k]? =ah y->(k<n/\xs[k]? =ah y)\/(n<=k/\k<n+ys.length/\ys[k-n]? =ah y)\/(n+ys.length<=k/\xs[k-ys.length]? =ah y):=λk y hk=>insR_get hnx k y (by rw[hzd];exact hk);have hzsh:∀y∈zs,y.map CV.kd=ti.ks:=λy hy=>by
    obtain⟨k,hk⟩:=bX hy;rcases hzg k y hk with ⟨_,h⟩|⟨_,_,h⟩|⟨_,h⟩
    ·exact mG y (aR h)
    ·exact DG.2 y (aR h)
    ·exact mG y (aR h)
   have hzp:∀(k:aE) (y:aC CV) (j:aE) (x:CV),zs[k]? =ah y->y[j]? =ah x->uj x=false:=λk y j x hk hj=>iq hp (hzsh y (aR hk)) hj;let c3:eZ:=⟨λm=>if m=dU 500 0 then p' else c1.P m,λm=>if m=dU 500 0 then(λ_ _=>⟨ai,0,0,0,0,0⟩)else c1.G m,c1.K⟩
   have hP3:c3.P (dU 500 0)=p':=by simp[c3]
   have hG3:c3.G (dU 500 0)=λ_ _=>⟨ai,0,0,0,0,0⟩:=by simp[c3]
   have hO:∀m o,oe [.v ak [.ow e2 ai xs], .v ak [.i .i64 n], .v ak [.sh e2 ys]] ⟨[.v ak [.ow e2 ai zs]],[]⟩ (c_ m)= .o o->m=dU 500 0/\o= .row e2 ai zs:=by intro m o ho;have hm:=nO ho (by simp);simp[Ll,Le,vh,tp,EC,Cx,tE]at hm;exact⟨jT hm.1,hm.2⟩
   have hX:oe [.v ak [.ow e2 ai xs], .v ak [.i .i64 n], .v ak [.sh e2 ys]] ⟨[.v ak [.ow e2 ai zs]],[]⟩ (c_ (dU 500 0))= .o (.row e2 ai zs):=rfl;have Cq:∀i j,¬gm zs i j:=by rintro i j ⟨y,x,h1,h2,h3⟩;rw[hzp i y j x h1 h2]at h3;cases h3
   have noInnX:∀i j,¬gm xs i j:=by rintro i j ⟨y,x,h1,h2,h3⟩;rw[iq hp (mG y (aR h1)) h2]at h3;cases h3
   have IB:∀b,fN c3 (dU 500 0) (.row e2 ai zs) b->p'.nil=ak/\b=p'.blk:=by
    rintro b (⟨h1,h2⟩|⟨_,i,j,h,_⟩)
    ·rw[hP3]at h1 h2;exact⟨h1,h2⟩
    ·exact cO h (Cq i j)
   have hOwn1:p.nil=ak->wy (inj [.v ak [.ow e2 ai xs], .v ak [.i .i64 n], .v ak [.sh e2 ys]]) c1 p.blk:=λhn=>⟨_,_,mS, .inl ⟨by rw[hpd];exact hn,by rw[hpd]⟩⟩
   have zm:p'.nil=ak->p'.blk=w.heap.size\/wy (inj [.v ak [.ow e2 ai xs], .v ak [.i .i64 n], .v ak [.sh e2 ys]]) c1 p'.blk:=λhn=>by
    rcases hI.blk hn with ⟨q1,q2⟩|q
    ·rw[q2];exact .inr (hOwn1 q1)
    ·exact .inl q
   have hKp:∀b,c1.K b->¬(p'.nil=ak/\b=p'.blk):=by
    rintro b hk ⟨hn,rfl⟩;rcases zm hn with h|h
    ·have:=cf.lt _ hk;omega
    ·exact cf.Ja h hk
   refine⟨c3,⟨?_, ?_, ?_, ?_, ?_⟩,⟨hI.os,hI.tape,hI.output,hI.size,λb hb=>hb, ?_, ?_,λb hb=> .inl hb⟩, ?_, ?_⟩
   ·intro m o ho;obtain⟨rfl,rfl⟩:=hO m o ho;refine⟨⟨ti,he,by rw[hP3,hI.sz,GJ],hzsh⟩, ?_,λ_=>⟨λi j h=>cO h (Cq i j),λi j i' j' h=>cO h (Cq i j)⟩⟩
    rw[hP3];refine⟨by rw[hI.n,gh.n,KU],λhn=> ?_,λhn=> ?_⟩
    ·obtain⟨q1,q2,q3⟩:=hI.nil hn;rw[gh.n]at q2;exact⟨gg (by omega),q1⟩
    ·obtain⟨i9,q1,q2,q3,q4,q5,q6,q7⟩:=hI.mem hn;refine⟨i9,q1,q2,q3,q4,λk y j x hk hj=> ?_⟩
     simp only[if_true];have hnl:=hzp k y j x hk hj;have jW:j<ti.ks.length:=by rw[<-hzsh y (aR hk),bR];exact(aT.1 hj).1
     have fin:∀u:bj,Sc u x->i9[p'.off+k*p'.sz+j]? =ah u->∃u:bj,i9[p'.off+k*p'.sz+j]? =ah u/\XC T w' (c3.G (dU 500 0)) k j u x:=λu h1 h2=>⟨u,h2,uz (E:=ofTab T) hnl h1⟩
     have pnil:∀(k:aE) (y:aC CV),xs[k]? =ah y->p.nil=false:=λk y h=>by
      cases hq:p.nil with
      |false=>rfl
      |true=>have hx:=(gh.nil hq).1;subst hx;cases h
     rw[hI.sz]at fin⊢;rcases hzg k y hk with ⟨r1,r2⟩|⟨r1,r2,r3⟩|⟨r1,r2⟩
     ·obtain⟨u,hu,hsc⟩:=xrel k y j x (pnil k y r2) r2 hj;have hb1:k*p.sz+j<n*p.sz:=by have:=bZ p.sz (show k+1<=n from r1);rw[dp]at this;rw[GJ]at this⊢;omega
      refine fin u hsc ?_;rw[lW];exact q5 _ u hb1 (by rw[<-lW];exact hu)
     ·obtain⟨u,hu,hr⟩:=n3 (k-n) y j x r3 hj;have hb1:(k-n)*p.sz+j<ys.length*p.sz:=by have:=bZ p.sz (show k-n+1<=ys.length by omega);rw[dp]at this;rw[GJ]at this⊢;omega
      refine fin u (pe (E:=ofTab T) hr hnl) ?_;have:=q6 _ hb1;rw[GJ]at this⊢;rw[hu,<-lW,u_]at this;have hmn:n*ti.ks.length<=k*ti.ks.length:=bZ _ r1;rw[<-this];congr 1;omega
     ·obtain⟨u,hu,hsc⟩:=xrel (k-ys.length) y j x (pnil _ y r2) r2 hj;have hkx:k-ys.length<xs.length:=(aT.1 r2).1;have hb1:(k-(n+ys.length))*p.sz+j<(p.n-n)*p.sz:=by have:=bZ p.sz (show k-(n+ys.length)+1<=p.n-n by rw[gh.n];omega);rw[dp]at this;rw[GJ]at this⊢;omega
      refine fin u hsc ?_;have:=q7 _ u hb1;rw[GJ]at this hu⊢;have m1:(n+ys.length)*ti.ks.length<=k*ti.ks.length:=bZ _ r1;have e1:(k-(n+ys.length))*ti.ks.length=k*ti.ks.length-(n+ys.length)*ti.ks.length:=u_ _ _ _;have e2:(k-ys.length)*ti.ks.length=k*ti.ks.length-ys.length*ti.ks.length:=u_ _ _ _;have e3:(n+ys.length)*ti.ks.length=n*ti.ks.length+ys.length*ti.ks.length:=dp _ _ _;rw[e1]at this;rw[e2]at hu;have:=this (by rw[<-hu];congr 2;omega);rw[<-this];congr 1;omega
   ·intro m o m' o' b h1 h2 _ _;obtain⟨rfl,_⟩:=hO m o h1;obtain⟨rfl,_⟩:=hO m' o' h2;rfl
   ·intro m o b h1 h2 h3;obtain⟨rfl,rfl⟩:=hO m o h1;exact hKp b h3 (IB b h2)
   ·intro b hb;exact jt (cf.lt b hb) hI.size
   ·intro m bs h1;obtain⟨_,h2⟩:=hO m _ h1;cases h2
   ·intro b hb KP;refine hI.old b hb (λhn he=> ?_);subst he;rcases zm hn with h|h
    ·omega
    ·exact KP h
   ·rintro b ⟨m,o,h1,h2⟩;obtain⟨rfl,rfl⟩:=hO m o h1;obtain⟨q1,rfl⟩:=IB b h2;rcases zm q1 with h|h
    ·exact .inr (by omega)
    ·exact .inl h
   ·intro m hm;have:m≠dU 500 0:=by rintro rfl;apply hm;rfl
    exact⟨bG this,bG this⟩
   ·show qa T w' c3 ak [.own (dU 500 0)] (lO p');show lO p'=lO (c3.P (dU 500 0));rw[hP3]
 ·cases h
end
end Go.FG.Ins

