/- slices.Insert at elements of plain cells, over any program that bears its text: a call of it does what is told. No condition but those that are stated. -/
import Derived.Test.YtilcgpcemjeaeaaGreatLib
import Derived.Shelf.Bodies2
import Derived.Shelf.RegionOpenPlain
import Derived.WalkKit
import Derived.Lib.Walk
import Derived.Lib.SliceRun
import Derived.Lib.JoinLaws
import Derived.Lib.AppendZeros
import Derived.Lib.Overlaps
import Derived.Laws.Externs
import Derived.Laws.IdiomCopy
import Derived.Lib.AppendZerosOnto
set_option linter.unusedVariables false
set_option linter.unusedSimpArgs false
set_option maxRecDepth 100000
open Array renaming length_toList->dS,getElem?_toList->cX,getElem?_eq_some_iff->dV,append_assoc->O8,getElem?_append_left->EK,getElem?_eq_none->Iu
open Bool renaming true->ai,false->ak,and_eq_true->aM
open Go renaming Program->cZ,World->bM,Oper->fu,Operand->dy,Value->bn,TypeInfo->KU
open Go.Act renaming eval->IM,put->WI
open Go.Builtin renaming copy_->gE,append_->ix,firstCells->fm,lenOf->pJ,zeroCells->fO
open Go.Extern.SlicesOverlaps renaming overlaps->fG
open Go.IntKind renaming i64->ao,wrap_i64->qh
open Go.Lib renaming wpList_append_run->uo
open Go.Oper renaming wp->Pb
open Go.Region renaming wanted->vm
open Go.Result renaming andThen_ok->bI
open Go.Sem renaming run_bind->cj,run_pure->cT,run->nB
open Go.Value renaming bool->DK
open Go.World renaming cell?_of_block->uY,setRow->lP
open Int renaming toNat_natCast->dK
open List renaming map_toArray->DY,map_cons->fw,map_nil->Ce,length_take->eL,length_drop->iC,getElem?_take->d_,getElem?_drop->dQ,getElem?_of_mem->b7,getElem?_eq_some_iff->aT,getElem?_eq_getElem->eR,size_toArray->WQ,getElem?_toArray->ig,append_assoc->cy,getElem?_append_left->dF,getElem?_append_right->db,all_eq_true->bu,getElem_mem->bB,mem_of_getElem?->aR,eq_nil_of_length_eq_zero->gh,length_map->bV
open Nat renaming min->SK,le_refl->cG,eq_zero_or_pos->DL,add_zero->yZ,mul_le_mul_right->b_,add_mul->dn,sub_mul->vp,min_def->Nc,add_assoc->mi,zero_add->bX,beq->bF,eq_of_beq_eq_true->aW,div_lt_iff_lt_mul->yN,mod_lt->DM,div_add_mod->KD,mul_comm->ET,lt_of_lt_of_le->jy
open Option renaming some->ah,none->aj
open Option.some renaming inj->aJ
open Prod.mk renaming inj->bY
open _root_ renaming Nat->aE,Array->dt,List->az,if_pos->bA,Option->aA,Int->ax,if_neg->bJ,absurd->cL,Bool->aU,cond_true->au,decide_eq_true_eq->bh
namespace Go.FG.Ins
open Go Go.Shelf Go.RowKit Go.Lib Go.Proofs
structure L (P:cZ) (ρ:Ren) (nm:String) (sz:aE):Prop where
 mixed:P.follows .mixedOrders=ai
 f22:P.funcs[ρ.f 22]? =ah {Body2.n22 ρ with name:=nm}
 t3:P.underlying (ρ.t 3)=ah (TypeDesc.int ao)
 a3:∀w,(Go.isAgg (ρ.t 3)).run P w= .ok ak w
 t4:P.underlying (ρ.t 4)=ah (TypeDesc.bool)
 a4:∀w,(Go.isAgg (ρ.t 4)).run P w= .ok ak w
 t24:P.underlying (ρ.t 24)=ah (TypeDesc.slice (ρ.t 9))
 a24:∀w,(Go.isAgg (ρ.t 24)).run P w= .ok ak w
 z9:∀w,(Go.sizeOf (ρ.t 9)).run P w= .ok sz w
variable {P:cZ} {ρ:Ren} {nm:String} {sz:aE}
theorem wpList_copy(w:bM){ops:dt fu}{rest:az fu}{o:fu}{a:Act}{Q:Exit->Act->bM->Prop}(hgd:o.guard=aj)(d s:dy)(t t':TypeId)
  (ho:o.op= .call {callee:= .builtin .copy,args:= #[d,s],argTypes:= #[t,t']}) (v u:bn) (hd:a.eval d=v) (hs:a.eval s=u) {v':bn} {w':bM}
  (hr:(gE #[t,t'] o.type #[v,u]).run P w= .ok v' w') (h:wpList P ops Q rest (a.put o.dst v') w'):wpList P ops Q (o::rest) a w:=
 wpList_plain hgd λ_ hK=>by
  unfold Pb execOp;simp only[ho,resolve,invoke,builtin,cj,cT,bI,DY,fw,Ce,hd,hs,hr];exact hK _ _ h
theorem step_copy{ops:dt fu}{o:fu}{a:Act}{w:bM}{K:Act->bM->Prop}{Q:Exit->Act->bM->Prop}{E:Prop}
  (hg:o.guard=aj) (d x:dy) (dT sT:TypeId) (Yh:o.op=Op.call {callee:=Callee.builtin Builtin.copy,args:= #[d,x],argTypes:= #[dT,sT]})
  (v u:bn) (hd:a.eval d=v) (hx:a.eval x=u) {v':bn} {w':bM} (hr:(gE #[dT,sT] o.type #[v,u]).run P w= .ok v' w') (hK:K (a.put o.dst v') w'):
  if vm o (yielded ops a.tmps)=ai then Pb P o a w K Q else E:=by
 have hw:vm o (yielded ops a.tmps)=true:=by simp[vm,hg]
 rw[bA hw];unfold Pb;simp[execOp,Yh,resolve,invoke,builtin,hd,hx,hr,Result.andThen];exact hK
set_option maxHeartbeats 4000000 in
set_option maxRecDepth 100000 in
theorem zero(l:L P ρ nm sz)(w:bM)(A B:aA Addr)(n c i vc:aE)(hi:i<=n)(hn:n<=9223372036854775807)(hA:A=aj/\n=0\/∃b o,A=ah ⟨b,o,aj⟩):
  Calls P (ρ.f 22) #[.slice A n c, .int .i64 i, .slice B 0 vc] w λe w'=>e= .returned (.slice A n c)/\w'=w:=by
 have t3:=l.t3;have a3:=l.a3;have t4:=l.t4;have a4:=l.a4;have t24:=l.t24;have a24:=l.a24;have z9:=l.z9;have u3:=run_underlying l.t3;have u4:=run_underlying l.t4;have u24:=run_underlying l.t24;have hb1:(0:ax)<=(i:ax):=by omega
 have FE:(i:ax)<=(n:ax):=by omega
 go_enter l.f22,Body2.n22_ntmps ρ;rcases hA with ⟨rfl,rfl⟩|⟨b,o,rfl⟩
 ·obtain rfl:i=0:=by omega
  go_wp2;go_ret;exact⟨rfl,rfl⟩
 ·go_wp2;all_goals (go_ret;exact⟨rfl,rfl⟩)
set_option maxHeartbeats 4000000 in
set_option maxRecDepth 100000 in
theorem atEnd(l:L P ρ nm sz)(w w1:bM)(A B:aA Addr)(n c m vc:aE)(r:bn)(hm:0<m)(hn:n<=9223372036854775807)(hA:A=aj/\n=0\/∃b o,A=ah ⟨b,o,aj⟩)
  (h1:∀ty,(ix #[ρ.t 24,ρ.t 24] ty #[.slice A n c, .slice B m vc]).run P w= .ok r w1):
  Calls P (ρ.f 22) #[.slice A n c, .int .i64 n, .slice B m vc] w λe w'=>e= .returned r/\w'=w1:=by
 have t3:=l.t3;have a3:=l.a3;have t4:=l.t4;have a4:=l.a4;have t24:=l.t24;have a24:=l.a24;have z9:=l.z9;have u3:=run_underlying l.t3;have u4:=run_underlying l.t4;have u24:=run_underlying l.t24;have KH:¬((m:ax)=0):=by omega
 go_enter l.f22,Body2.n22_ntmps ρ;rcases hA with ⟨rfl,rfl⟩|⟨b,o,rfl⟩
 ·go_wp2_with (at_builtin;refine uo _ rfl _ _ _ _ rfl _ _ rfl rfl _ _ (h1 _) ?_)
  go_ret;exact⟨rfl,rfl⟩
 ·go_wp2_with (at_builtin;refine uo _ rfl _ _ _ _ rfl _ _ rfl rfl _ _ (h1 _) ?_)
  all_goals (go_ret;exact⟨rfl,rfl⟩)
set_option maxHeartbeats 4000000 in
set_option maxRecDepth 100000 in
theorem shift(l:L P ρ nm sz)(w w1 w2:bM)(x1 x2:bn)(b o n c i m vc:aE)(B:aA Addr)(hi:i<n)(hm:0<m)(hroom:n+m<=c)(hc63:c<=9223372036854775807)
  (P0:∀lb cb,(callFunc (ρ.f 29) #[.slice B m vc, .slice (ah ⟨b,o+(i+m)*sz,aj⟩) lb cb]).run P w= .ok (.value (.bool ak)) w)
  (h1:∀ty,(gE #[ρ.t 24,ρ.t 24] ty #[.slice (ah ⟨b,o+(i+m)*sz,aj⟩) (n+m-(i+m)) (c-(i+m)), .slice (ah ⟨b,o+i*sz,aj⟩) (n+m-i) (c-i)]).run P w.drew= .ok x1 w1)
  (h2:∀ty,(gE #[ρ.t 24,ρ.t 24] ty #[.slice (ah ⟨b,o+i*sz,aj⟩) (n+m-i) (c-i), .slice B m vc]).run P w1= .ok x2 w2):
  Calls P (ρ.f 22) #[.slice (ah ⟨b,o,aj⟩) n c, .int .i64 i, .slice B m vc] w λe w'=>e= .returned (.slice (ah ⟨b,o,aj⟩) (n+m) c)/\w'=w2:=by
 have t3:=l.t3;have a3:=l.a3;have t4:=l.t4;have a4:=l.a4;have t24:=l.t24;have a24:=l.a24;have z9:=l.z9;have u3:=run_underlying l.t3;have u4:=run_underlying l.t4;have u24:=run_underlying l.t24;have KH:¬((m:ax)=0):=by omega
 have Eu:¬((i:ax)=(n:ax)):=by omega
 have mixed:=l.mixed;have hw1:ao.wrap ((i:ax)+(m:ax))=(i:ax)+(m:ax):=by rw[qh];omega
 have hb1:(0:ax)<=(i:ax)+(m:ax):=by omega
 have gC:i<=n:=by omega
 have htn:((i:ax)+(m:ax)).toNat=i+m:=by omega
 have FE:¬(c=i+m):=by omega
 have hb3:(i:ax)<=(n:ax)+(m:ax):=by omega
 have hb4:¬(c=i):=by omega
 go_enter l.f22,Body2.n22_ntmps ρ;go_wp2_with (simp only[P0])
 go_region_law_o (refine step_copy rfl _ _ (ρ.t 24) (ρ.t 24) rfl _ _ (by simp[IM,WI]) (by simp[IM,WI]) (h1 _) ?_);go_wp2_with (at_builtin;refine wpList_copy _ rfl _ _ (ρ.t 24) (ρ.t 24) rfl _ _ rfl rfl (h2 _) ?_)
 go_ret;exact⟨rfl,rfl⟩
set_option maxHeartbeats 4000000 in
set_option maxRecDepth 100000 in
theorem grow(l:L P ρ nm sz)(w w1 w2 w3:bM)(x2 x3:bn)(b o b' n c c' i m vc:aE)(B:aA Addr)(hi:i<n)(hm:0<m)(TB:n<=c)(hroom:c<n+m)(tK:n+m<=9223372036854775807)(JD:n+m<=c')(hc63:c'<=9223372036854775807)
  (h1:∀ty,(ix #[ρ.t 24,ρ.t 3] ty #[.slice (ah ⟨b,o,aj⟩) i c, .int .i64 ((n:ax)+(m:ax)-(i:ax))]).run P w= .ok (.slice (ah ⟨b',0,aj⟩) (n+m) c') w1)
  (h2:∀ty,(gE #[ρ.t 24,ρ.t 24] ty #[.slice (ah ⟨b',i*sz,aj⟩) (n+m-i) (c'-i), .slice B m vc]).run P w1= .ok x2 w2)
  (h3:∀ty,(gE #[ρ.t 24,ρ.t 24] ty #[.slice (ah ⟨b',(i+m)*sz,aj⟩) (n+m-(i+m)) (c'-(i+m)), .slice (ah ⟨b,o+i*sz,aj⟩) (n-i) (c-i)]).run P w2.drew= .ok x3 w3):
  Calls P (ρ.f 22) #[.slice (ah ⟨b,o,aj⟩) n c, .int .i64 i, .slice B m vc] w λe w'=>e= .returned (.slice (ah ⟨b',0,aj⟩) (n+m) c')/\w'=w3:=by
 have t3:=l.t3;have a3:=l.a3;have t4:=l.t4;have a4:=l.a4;have t24:=l.t24;have a24:=l.a24;have z9:=l.z9;have u3:=run_underlying l.t3;have u4:=run_underlying l.t4;have u24:=run_underlying l.t24;have KH:¬((m:ax)=0):=by omega
 have Eu:¬((i:ax)=(n:ax)):=by omega
 have hz3:(c:ax)<(n:ax)+(m:ax):=by omega
 have mixed:=l.mixed;have hw0:ao.wrap ((n:ax)+(m:ax))=(n:ax)+(m:ax):=by rw[qh];omega
 have hw2:ao.wrap ((n:ax)+(m:ax)-(i:ax))=(n:ax)+(m:ax)-(i:ax):=by rw[qh];omega
 have hw1:ao.wrap ((i:ax)+(m:ax))=(i:ax)+(m:ax):=by rw[qh];omega
 have hb1:(0:ax)<=(i:ax)+(m:ax):=by omega
 have gC:i<=n:=by omega
 have htn:((i:ax)+(m:ax)).toNat=i+m:=by omega
 have hGi:¬(c'=i):=by omega
 have hGim:¬(c'=i+m):=by omega
 have hci:¬(c=i):=by omega
 have hic:i<=c:=by omega
 have hb3:(i:ax)<=(n:ax):=by omega
 have hb4:(i:ax)<=(n:ax)+(m:ax):=by omega
 go_enter l.f22,Body2.n22_ntmps ρ
 go_wp2_with (first
  |(at_builtin;refine uo _ rfl _ _ _ _ rfl _ _ rfl rfl _ _ (h1 _) ?_)
  |(at_builtin;refine wpList_copy _ rfl _ _ (ρ.t 24) (ρ.t 24) rfl _ _ rfl rfl (h2 _) ?_))
 go_region_law_o (refine step_copy rfl _ _ (ρ.t 24) (ρ.t 24) rfl (.slice (ah ⟨b',(i+m)*sz,aj⟩) (n+m-(i+m)) (c'-(i+m))) (.slice (ah ⟨b,o+i*sz,aj⟩) (n-i) (c-i)) (by simp[IM,WI]) (by simp[IM,WI]) (h3 (ρ.t 3)) ?_);go_wp2;go_ret;exact⟨rfl,rfl⟩
end Go.FG.Ins

namespace Go.FG.Ins
open Go Go.Shelf Go.RowKit Go.Lib Go.Proofs
section
variable {P:cZ}
theorem run_copyG{w:bM}{dT sT ty elem sz b o dLen dCap sLen sCap m:aE}{B:aA Addr}{cs:az bn}{cur:dt bn}(hu:P.underlying dT=ah (.slice elem))(hs:∀w,(sizeOf elem).run P w= .ok sz w)
  (hf:(fm sz m (.slice B sLen sCap)).run P w= .ok cs.toArray w) (hm:SK sLen dLen=m) (hb:n8 w b cur) (hl:o+cs.length<=cur.size) (h1:∀v∈cs,v.oneCell'=ai):
  (gE #[dT,sT] ty #[.slice (ah (ad b o)) dLen dCap, .slice B sLen sCap]).run P w= .ok (goInt m) (w.setRow b (ed cur o cs)):=by have LM:=nQ (P:=P) w hb hl h1;have xS:min sLen dLen=m:=hm;simp[gE,run_underlying hu,pJ,hs,xS,hf,LM]
theorem blk_drew{w:bM}{b:aE}{cur:dt bn}(h:n8 w b cur):n8 w.drew b cur:=h
theorem cell_setRow_other{w:bM}{b b2 o:aE}{new:dt bn}(h:b2≠b):(w.setRow b new).cell? (ad b2 o)=w.cell? (ad b2 o):=uY (setRow_other w b b2 _ h)
structure Insd (w w':bM) (p p':Pl) (i m:aE) (news:az bn):Prop where
 n:p'.n=p.n+m
 sz:p'.sz=p.sz
 nil:p'.nil=ai->p'.cap=0/\p.n=0/\m=0
 mem:p'.nil=ak->∃je,n8 w' p'.blk je/\p'.n<=p'.cap/\p'.cap<=maxLen/\p'.off+p'.cap*p'.sz<=je.size/\
  (∀k u,k<i*p.sz->w.cell? (ad p.blk (p.off+k))=ah u->je[p'.off+k]? =ah u)/\(∀k,k<m*p.sz->je[p'.off+i*p.sz+k]? =news[k]?)/\
  (∀k u,k<(p.n-i)*p.sz->w.cell? (ad p.blk (p.off+i*p.sz+k))=ah u->je[p'.off+(i+m)*p.sz+k]? =ah u)
 blk:p'.nil=ak->(p.nil=ak/\p'.blk=p.blk)\/p'.blk=w.heap.size
 old:∀b,b<w.heap.size->(p'.nil=ak->b≠p'.blk)->w'.heap[b]? =w.heap[b]?
 size:w.heap.size<=w'.heap.size
 os:w'.os=w.os
 tape:w'.tape=w.tape
 output:w'.output=w.output
structure Pre (w:bM) (p:Pl):Prop where
 nil:p.nil=ai->p.n=0/\p.cap=0
 mem:p.nil=ak->∃vals,n8 w p.blk vals/\p.n<=p.cap/\p.cap<=maxLen/\p.off+p.cap*p.sz<=vals.size
variable {ρ:Ren} {nm:String}
theorem overlaps_false{w:bM}{tS tR e:TypeId}(ht:P.underlying tS=ah (.slice e)){size:aE}(hz:∀w,(Go.sizeOf e).run P w= .ok size w){B:aA Addr}{m vc b o:aE}{vals:dt bn}(hb:n8 w b vals)(ho:o<vals.size)
  (hB:∀a,B=ah a->0<m->a.block≠b/\∃t k,w.shape? a.block=ah (t,k+1)) (lb cb:aE):
  (fG #[tS,tS] #[tR] #[.slice B m vc, .slice (ah (ad b o)) lb cb]).run P w= .ok (.bool ak) w:=by
 obtain⟨t,fr,hg,DO⟩:=hb;have hsb:w.shape? b=ah (t,vals.size):=by simp[World.shape?,hg]
 have f1:w.frozen? ⟨b,o,aj⟩=false:=by have:=DO o (by omega);simpa [World.frozen?,hg]using this
 have f2:w.frozen? ⟨b,vals.size,aj⟩=false:=by have:=DO vals.size (cG _);simpa [World.frozen?,hg]using this
 have hne0:vals.size≠0:=by omega
 change nB P (α:=bn) (do
  let ah t:=(#[tS,tS]:dt TypeId)[0]? |stuck "slices.overlaps: no parameter types"
  let .slice elem<-underlying t|stuck "slices.overlaps: slice type expected"
  let size<-sizeOf elem
  match B,(ah (ad b o):aA Addr)with
  |some a,ah b=>
   if m=0\/lb=0\/size=0 then pure (DK ak)
   else if a.block !=b.block&&(<-frozen a)&&(<-frozen b)then unsupported .addressObserved
   else do
    if a.block !=b.block then do
     noView a;noView b
     if<-mayBeOne a b then return DK ((<-choose (.extern "sameAddr.stringBytes" 2))==1)
    pure (DK (a.block==b.block&&a.off<b.off+lb*size&&b.off<a.off+m*size))
  |_,_=>pure (DK ak)) w=_
 cases B with
 |none=>simp[run_underlying ht,hz]
 |some a=>
  by_cases h0:m=0\/lb=0\/size=0
  ·simp[run_underlying ht,hz,h0]
  ·have hm:0<m:=by omega
   obtain⟨iz,ta,k,hsa⟩:=hB a rfl hm;have LK:(a.block !=b)=true:=by simpa using iz
   have hnb':(a.block==b)=false:=by simpa using iz
   obtain⟨n,hn⟩:∃n,vals.size=n+1:=⟨vals.size-1,by omega⟩
   rw[hn]at hsb f2;simp[run_underlying ht,hz,h0,LK,hnb',iz,frozen,noView,viewAt,mayBeOne,stringish,shape,nB,hsa,hsb,f1,f2]
theorem first_of{w:bM}{sz m b o len cap:aE}{cs:az bn}(hl:cs.length=m*sz)(h:∀j u,cs[j]? =ah u->w.cell? (ad b (o+j))=ah u):(fm sz m (.slice (ah (ad b o)) len cap)).run P w= .ok cs.toArray w:=
 run_firstCells_some w sz m _ _ _ cs hl (λj v hj=>by rw[Addr.oc];exact h j v hj)
theorem insert_run{sz:aE}(l:L P ρ nm sz){inf:KU}{z:bn}(hi:P.info? (ρ.t 9)=ah inf)(hz:inf.zero=ah z)(Re:z.cells.size=sz)(gj:inf.size=sz)(ly:0<sz)
  (P0:∀args w,(callFunc (ρ.f 29) args).run P w=((fG #[ρ.t 24,ρ.t 24] #[ρ.t 4] args).run P w).andThen λv w'=> .ok (.value v) w')
  {w:bM} {p:Pl} (hp:p.sz=sz) (pre:Pre w p) {i m vc:aE} {B:aA Addr} {news:az bn} (gC:i<=p.n) (hv:news.length=m*sz) (hB:m=0\/∃b2 o2,B=ah (ad b2 o2)/\(p.nil=ak->b2≠p.blk)/\∀j u,news[j]? =ah u->w.cell? (ad b2 (o2+j))=ah u)
  (xT:∀v∈news,v.oneCell'=ai) (h1:(p.n+m)*inf.bytes<=140737488355328) (h2:p.n+m<=9223372036854775807) (hone2:∀vals k v,p.nil=ak->n8 w p.blk vals->k<p.n*sz->vals[p.off+k]? =ah v->v.oneCell'=ai):
  ∃p' w',Insd w w' p p' i m news/\Calls P (ρ.f 22) #[l_ p, .int .i64 i, .slice B m vc] w (λe w2=>e= .returned (l_ p')/\w2=w'):=by
 subst hp;have hnm:p.n<=9223372036854775807:=by omega
 rcases DL m with rfl|hm
 ·refine⟨p,w,⟨rfl,rfl,λh=>⟨(pre.nil h).2,(pre.nil h).1,rfl⟩,λh=> ?_,λh=> .inl ⟨h,rfl⟩,λ_ _ _=>rfl,cG _,rfl,rfl,rfl⟩, ?_⟩
  ·obtain⟨vals,hb,q1,q2,q3⟩:=pre.mem h;refine⟨vals,hb,q1,q2,q3,λk u _ hu=>by rw[<-hb.cell];exact hu,λk hk=>by simp at hk,λk u _ hu=> ?_⟩
   rw[<-hb.cell,yZ];exact hu
  ·cases hq:p.nil with
   |true=>have h0:=(pre.nil hq).1;rw[nN hq];have:=zero l w aj B 0 0 i vc (by omega) (by omega) (.inl ⟨rfl,rfl⟩);exact this
   |false=>rw[e6 hq];exact zero l w _ B p.n p.cap i vc gC hnm (.inr ⟨_,_,rfl⟩)
 ·obtain⟨b2,o2,rfl,FE,hcell⟩:=hB.resolve_left (by omega);by_cases hend:i=p.n
  ·subst hend;have happ:App P w (ρ.t 24) (.slice (ah (ad b2 o2)) m vc) z.cells p.sz m news:=by refine⟨.inl ⟨.inl ⟨_,l.t24⟩,by simp[pJ],first_of hv hcell,first_of (w:=w.drew) hv hcell⟩,hv,xT⟩
   obtain⟨p',w',hr,hA⟩:=ub (P:=P) (w:=w) (t:=ρ.t 24) (u:=ρ.t 24) (ty:=0) (p:=p) l.t24 hi hz Re gj (λh=>(pre.nil h).1) pre.mem happ h1 h2;refine⟨p',w',⟨hA.n,hA.sz,hA.nil,λh=> ?_,hA.blk,hA.old,hA.size,hA.os,hA.tape,hA.output⟩, ?_⟩
   ·obtain⟨je,q1,q2,q3,q4,q5,q6⟩:=hA.mem h;exact⟨je,q1,q2,q3,q4,q5,q6,λk u hk _=>by simp at hk⟩
   ·have Ep:∀ty,(ix #[ρ.t 24,ρ.t 24] ty #[l_ p, .slice (ah (ad b2 o2)) m vc]).run P w= .ok (l_ p') w':=λty=>hr;cases hq:p.nil with
    |true=>have h0:=(pre.nil hq).1;rw[nN hq]at Ep⊢;have:=atEnd l w w' aj (ah (ad b2 o2)) 0 0 m vc (l_ p') hm (by omega) (.inl ⟨rfl,rfl⟩) Ep;rw[h0];exact this
    |false=>rw[e6 hq]at Ep⊢;exact atEnd l w w' _ (ah (ad b2 o2)) p.n p.cap m vc (l_ p') hm hnm (.inr ⟨_,_,rfl⟩) Ep
  ·have jt:i<p.n:=by omega
   have hq:p.nil=false:=by
    cases h:p.nil with
    |false=>rfl
    |true=>have:=(pre.nil h).1;omega
   obtain⟨vals,hb,TB,Yc,mQ⟩:=pre.mem hq;have iz:=FE hq;rw[e6 hq];have m1:i*p.sz<=p.n*p.sz:=b_ _ gC;have m2:p.n*p.sz<=p.cap*p.sz:=b_ _ TB;have e1:(i+m)*p.sz=i*p.sz+m*p.sz:=dn _ _ _;have e2:(p.n-i)*p.sz=p.n*p.sz-i*p.sz:=vp _ _ _;have m0:i*p.sz+p.sz<=p.n*p.sz:=by have:=b_ p.sz (show i+1<=p.n by omega);rwa[dn,Nat.one_mul]at this
   have hp0:p.sz<=m*p.sz:=Nat.le_mul_of_pos_left _ hm;have n1:SK (p.n+m-i) (p.n+m-(i+m))=p.n-i:=by simp only[Nc];split<;>omega
   have n2:SK m (p.n+m-i)=m:=by simp only[Nc];split<;>omega
   have n3:SK (p.n-i) (p.n+m-(i+m))=p.n-i:=by simp only[Nc];split<;>omega
   let tail:=(vals.toList.drop (p.off+i*p.sz)).take ((p.n-i)*p.sz);have htl:tail.length=(p.n-i)*p.sz:=by simp only[tail,eL,iC,dS];omega
   have htg:∀k,k<(p.n-i)*p.sz->tail[k]? =vals[p.off+i*p.sz+k]? :=λk hk=>by simp only[tail,d_,bA hk,dQ,cX]
   have ht1:∀v∈tail,v.oneCell'=true:=λv hv=>by
    obtain⟨k,hk⟩:=b7 hv;have Eo:k<(p.n-i)*p.sz:=by rw[<-htl];exact(aT.1 hk).1
    rw[htg k Eo]at hk;exact hone2 vals (i*p.sz+k) v hq hb (by omega) (by rw[<-mi];exact hk)
   by_cases hroom:p.n+m<=p.cap
   ·-- in place
    have m3:(p.n+m)*p.sz<=p.cap*p.sz:=b_ _ hroom;rw[dn]at m3;have NZ:p.off+(i+m)*p.sz+tail.length<=vals.size:=by rw[htl];omega
    have hb1:n8 (w.drew.setRow p.blk (ed vals (p.off+(i+m)*p.sz) tail)) p.blk (ed vals (p.off+(i+m)*p.sz) tail):=n8.setRow (w:=w.drew) (blk_drew hb) (e8 NZ);have HG:p.off+i*p.sz+news.length<=(ed vals (p.off+(i+m)*p.sz) tail).size:=by rw[e8 NZ,hv];omega
    have c1:∀ty,(gE #[ρ.t 24,ρ.t 24] ty #[.slice (ah ⟨p.blk,p.off+(i+m)*p.sz,aj⟩) (p.n+m-(i+m)) (p.cap-(i+m)), .slice (ah ⟨p.blk,p.off+i*p.sz,aj⟩) (p.n+m-i) (p.cap-i)]).run P w.drew= .ok (goInt ((p.n-i:aE):ax)) (w.drew.setRow p.blk (ed vals (p.off+(i+m)*p.sz) tail)):=λty=>
     run_copyG (P:=P) (w:=w.drew) l.t24 l.z9 (first_of (w:=w.drew) htl (λj u hj=>by
      have j8:j<(p.n-i)*p.sz:=by rw[<-htl];exact(aT.1 hj).1
      rw[htg j j8]at hj;exact(hb.cell _).trans hj)) n1 (blk_drew hb) NZ ht1
    have c2:∀ty,(gE #[ρ.t 24,ρ.t 24] ty #[.slice (ah ⟨p.blk,p.off+i*p.sz,aj⟩) (p.n+m-i) (p.cap-i), .slice (ah (ad b2 o2)) m vc]).run P (w.drew.setRow p.blk (ed vals (p.off+(i+m)*p.sz) tail))= .ok (goInt m) ((w.drew.setRow p.blk (ed vals (p.off+(i+m)*p.sz) tail)).setRow p.blk (ed (ed vals (p.off+(i+m)*p.sz) tail) (p.off+i*p.sz) news)):=λty=>
     run_copyG (P:=P) l.t24 l.z9 (first_of hv (λj u hj=>by rw[cell_setRow_other iz];exact hcell j u hj)) n2 hb1 HG xT
    have hcal:=shift l w _ _ _ _ p.blk p.off p.n p.cap i m vc (ah (ad b2 o2)) jt hm hroom Yc (λlb cb=>by
     rw[P0,overlaps_false (P:=P) (w:=w) l.t24 l.z9 hb (o:=p.off+(i+m)*p.sz) (by omega) (λa ha _=>by
      cases ha;have h0:0<news.length:=by rw[hv];omega
      have:=hcell 0 _ (eR h0);refine⟨iz, ?_⟩
      unfold World.cell? at this;unfold World.shape?;split at this
      ·rename_i cc tt ff hg;rw[hg];simp at this;obtain⟨hlt2,_⟩:=dV.1 this;exact⟨tt,cc.size-1,by simp;omega⟩
      ·cases this) lb cb]
     rfl) c1 c2
    refine⟨⟨ak,p.blk,p.off,p.cap,p.n+m,p.sz⟩,(w.drew.setRow p.blk (ed vals (p.off+(i+m)*p.sz) tail)).setRow p.blk (ed (ed vals (p.off+(i+m)*p.sz) tail) (p.off+i*p.sz) news),⟨rfl,rfl,λh=>(by cases h),λ_=> ?_,λ_=> .inl ⟨hq,rfl⟩,λb Q9 LK=> ?_,by simp[lP],rfl,rfl,rfl⟩,by rw[e6 rfl];exact hcal⟩
    ·refine⟨_,hb1.setRow (e8 HG),hroom,Yc,by rw[e8 HG,e8 NZ];exact mQ,λk u hk hu=> ?_,λk hk=> ?_,λk u hk hu=> ?_⟩
     ·show(ed (ed vals (p.off+(i+m)*p.sz) tail) (p.off+i*p.sz) news)[p.off+k]? =ah u;rw[gu HG,bJ (by omega),gu NZ,bJ (by omega),<-hb.cell];exact hu
     ·show(ed (ed vals (p.off+(i+m)*p.sz) tail) (p.off+i*p.sz) news)[p.off+i*p.sz+k]? =news[k]?;rw[gu HG,bA (by rw[hv];omega)];congr 1;omega
     ·show(ed (ed vals (p.off+(i+m)*p.sz) tail) (p.off+i*p.sz) news)[p.off+(i+m)*p.sz+k]? =ah u;rw[gu HG,bJ (by rw[hv];omega),gu NZ,bA (by rw[htl];omega),show p.off+(i+m)*p.sz+k-(p.off+(i+m)*p.sz)=k by omega,htg k hk,<-hb.cell];exact hu
    ·have hbne:b≠p.blk:=LK rfl;rw[setRow_other _ _ b _ hbne,setRow_other _ _ b _ hbne];rfl
   ·-- a new row
    have hgo:p.cap<p.n+m:=by omega
    let pE:=(vals.toList.drop p.off).take (i*p.sz);have FH:pE.length=i*p.sz:=by simp only[pE,eL,iC,dS];omega
    have hog:∀k,k<i*p.sz->pE[k]? =vals[p.off+k]? :=λk hk=>by simp only[pE,d_,bA hk,dQ,cX]
    have W7:i+(p.n+m-i)=p.n+m:=by omega
    have Tz:(p.n:ax)+(m:ax)-(i:ax)=((p.n+m-i:aE):ax):=by omega
    have hold:(fm inf.size i (.slice (ah (ad p.blk p.off)) i p.cap)).run P w.drew= .ok pE.toArray w.drew:=by
     rw[gj];exact first_of (w:=w.drew) FH (λj u hj=>by
      have j8:j<i*p.sz:=by rw[<-FH];exact(aT.1 hj).1
      rw[hog j j8]at hj;exact(hb.cell _).trans hj)
    have hG:=grownCap_ge w (p.n+m) p.cap (ρ.t 9);have hG2:=grownCap_le_maxLen w (p.n+m) p.cap (ρ.t 9) (by unfold maxLen;omega);generalize hGd:grownCap w (p.n+m) p.cap (ρ.t 9)=G at hG hG2;obtain⟨arr,harr⟩:∃arr:dt bn,arr=pE.toArray++fO z.cells (p.n+m-i)++fO z.cells (G-(p.n+m)):=⟨_,rfl⟩
    have a1:∀ty,(ix #[ρ.t 24,ρ.t 3] ty #[.slice (ah ⟨p.blk,p.off,aj⟩) i p.cap, .int .i64 ((p.n:ax)+(m:ax)-(i:ax))]).run P w= .ok (.slice (ah ⟨w.heap.size,0,aj⟩) (p.n+m) G) (w.drew.alloc (.cells arr (ρ.t 9))):=λty=>by have hmb:(p.n+m-i)*inf.bytes<=(p.n+m)*inf.bytes:=b_ _ (by omega);have h:=Lib.run_append_grow_zeros w (ρ.t 24) (ρ.t 3) ty (ρ.t 9) inf z .i64 .i64 l.t24 l.t3 hi hz (ah (ad p.blk p.off)) i p.cap pE hold (p.n+m-i) (by omega) (by omega) (by omega) (by omega) (by omega) (by rw[W7];exact growslice_fits hgo h1);rw[W7,hGd,<-harr]at h;rw[Tz];exact h
    have sarr:arr.size=i*p.sz+(p.n+m-i)*p.sz+(G-(p.n+m))*p.sz:=by rw[harr];simp only[Array.size_append,WQ,size_zeroCells,Re,FH]
    have e3:(p.n+m-i)*p.sz=p.n*p.sz+m*p.sz-i*p.sz:=by rw[vp,dn]
    have e4:G*p.sz=(p.n*p.sz+m*p.sz)+(G-(p.n+m))*p.sz:=by rw[<-dn,<-dn];congr 1;omega
    have hbw:p.blk<w.heap.size:=hb.lt;have hb0:n8 (w.drew.alloc (.cells arr (ρ.t 9))) w.heap.size arr:=n8.alloc w.drew arr _;have NZ:i*p.sz+news.length<=arr.size:=by rw[sarr,hv];omega
    have hb1:=hb0.setRow (new:=ed arr (i*p.sz) news) (e8 NZ);have HG:(i+m)*p.sz+tail.length<=(ed arr (i*p.sz) news).size:=by rw[e8 NZ,sarr,htl];omega
    have hb2w:b2<w.heap.size:=by
     have h0:0<news.length:=by rw[hv];omega
     exact block_lt_of_cell (hcell 0 _ (eR h0))
    have oldc:∀b o,b<w.heap.size->(w.drew.alloc (.cells arr (ρ.t 9))).cell? (ad b o)=w.cell? (ad b o):=λb o hbl=>uY (heap_alloc_old w.drew _ hbl);have c1:∀ty,(gE #[ρ.t 24,ρ.t 24] ty #[.slice (ah ⟨w.heap.size,i*p.sz,aj⟩) (p.n+m-i) (G-i), .slice (ah (ad b2 o2)) m vc]).run P (w.drew.alloc (.cells arr (ρ.t 9)))= .ok (goInt m) ((w.drew.alloc (.cells arr (ρ.t 9))).setRow w.heap.size (ed arr (i*p.sz) news)):=λty=>
     run_copyG (P:=P) l.t24 l.z9 (first_of hv (λj u hj=>by rw[oldc _ _ hb2w];exact hcell j u hj)) n2 hb0 NZ xT
    have c2:∀ty,(gE #[ρ.t 24,ρ.t 24] ty #[.slice (ah ⟨w.heap.size,(i+m)*p.sz,aj⟩) (p.n+m-(i+m)) (G-(i+m)), .slice (ah ⟨p.blk,p.off+i*p.sz,aj⟩) (p.n-i) (p.cap-i)]).run P ((w.drew.alloc (.cells arr (ρ.t 9))).setRow w.heap.size (ed arr (i*p.sz) news)).drew= .ok (goInt ((p.n-i:aE):ax)) (((w.drew.alloc (.cells arr (ρ.t 9))).setRow w.heap.size (ed arr (i*p.sz) news)).drew.setRow w.heap.size (ed (ed arr (i*p.sz) news) ((i+m)*p.sz) tail)):=λty=>
     run_copyG (P:=P) (w:=((w.drew.alloc (.cells arr (ρ.t 9))).setRow w.heap.size (ed arr (i*p.sz) news)).drew) l.t24 l.z9 (first_of htl (λj u hj=>by
      have j8:j<(p.n-i)*p.sz:=by rw[<-htl];exact(aT.1 hj).1
      rw[htg j j8]at hj;show((w.drew.alloc (.cells arr (ρ.t 9))).setRow w.heap.size (ed arr (i*p.sz) news)).cell? (ad p.blk (p.off+i*p.sz+j))=ah u;rw[cell_setRow_other (by omega),oldc _ _ hbw];exact(hb.cell _).trans hj)) n3 (blk_drew hb1) HG ht1
    have hcal:=grow l w _ _ _ _ _ p.blk p.off w.heap.size p.n p.cap G i m vc (ah (ad b2 o2)) jt hm TB hgo h2 hG hG2 a1 c1 c2;refine⟨⟨ak,w.heap.size,0,G,p.n+m,p.sz⟩,((w.drew.alloc (.cells arr (ρ.t 9))).setRow w.heap.size (ed arr (i*p.sz) news)).drew.setRow w.heap.size (ed (ed arr (i*p.sz) news) ((i+m)*p.sz) tail),⟨rfl,rfl,λh=>(by cases h),λ_=> ?_,λ_=> .inr rfl,λb Q9 LK=> ?_,by simp[lP],rfl,rfl,rfl⟩,by rw[e6 rfl];exact hcal⟩
    ·refine⟨_,n8.setRow (w:=((w.drew.alloc (.cells arr (ρ.t 9))).setRow w.heap.size (ed arr (i*p.sz) news)).drew) (blk_drew hb1) (e8 HG),hG,hG2,by rw[e8 HG,e8 NZ,sarr];show 0+G*p.sz<=_;omega,λk u hk hu=> ?_,λk hk=> ?_,λk u hk hu=> ?_⟩
     ·show(ed (ed arr (i*p.sz) news) ((i+m)*p.sz) tail)[0+k]? =ah u;rw[bX,gu HG,bJ (by omega),gu NZ,bJ (by omega),harr,O8,EK (by simp[FH];omega),ig,hog k hk,<-hb.cell];exact hu
     ·show(ed (ed arr (i*p.sz) news) ((i+m)*p.sz) tail)[0+i*p.sz+k]? =news[k]?;rw[bX,gu HG,bJ (by omega),gu NZ,bA (by rw[hv];omega)];congr 1;omega
     ·show(ed (ed arr (i*p.sz) news) ((i+m)*p.sz) tail)[0+(i+m)*p.sz+k]? =ah u;rw[bX,gu HG,bA (by rw[htl];omega),show(i+m)*p.sz+k-(i+m)*p.sz=k by omega,htg k hk,<-hb.cell];exact hu
    ·have hbne:b≠w.heap.size:=by omega
     rw[setRow_other _ _ b _ hbne];show((w.drew.alloc (.cells arr (ρ.t 9))).setRow w.heap.size (ed arr (i*p.sz) news)).heap[b]? =_;rw[setRow_other _ _ b _ hbne,heap_alloc_old w.drew _ Q9];rfl
end
end Go.FG.Ins

namespace Go.FG.Ins
open Go Go.Shelf Go.RowKit Go.Lib Go.Proofs
abbrev ofTab(T:Tab):fT:={toTab:=T,call:=λ_ _=>aj,om:=λ_ _=> .nat,mode:=λ_ _=>ak,keep:=λ_=>[],tk:=λ_=>false}
theorem holdsK{T:Tab}{w:bM}{K:aE->Prop}{v:bn}{e:aE}{ys:aQ}(h:da T w K v (.l e ys))(h0:ys≠[]){b o n c:aE}(hv:v= .slice (ah (ad b o)) n c):K b:=by
 cases h with
 |nl=>exact cL rfl h0
 |l e xs b' o' c' Ws U ht hc hm hK hs hcell gC=>cases hv;exact hK
def xV(e bytes:aE):az fa->aA (aU×dq)
 |[.v ak [.ow e1 ai xs], .v ak [.i .i64 i], .v ak [.sh e2 ys]]=>bif bF e1 e&&bF e2 e then
  ah (decide (0<=i)&&decide (i<=(xs.length:ax))&&cw (xs.length+ys.length) bytes,⟨[.v ak [.ow e ai (Pu.tN xs i.toNat ys)]],[]⟩)else aj
 |_=>aj
theorem insR_get{xs ys:aQ}{i:aE}(h:i<=xs.length)(k:aE)(y:az CV)(hk:(Pu.tN xs i ys)[k]? =ah y):
  (k<i/\xs[k]? =ah y)\/(i<=k/\k<i+ys.length/\ys[k-i]? =ah y)\/(i+ys.length<=k/\xs[k-ys.length]? =ah y):=by
 unfold Pu.tN at hk;have hl:(xs.take i).length=i:=by simp;omega
 by_cases h1:k<i
 ·rw[cy,dF (by omega),d_,bA h1]at hk;exact .inl ⟨h1,hk⟩
 ·by_cases h2:k<i+ys.length
  ·rw[cy,db (by omega),hl,dF (by omega)]at hk;exact .inr (.inl ⟨by omega,h2,hk⟩)
  ·rw[db (by simp;omega),dQ]at hk;refine .inr (.inr ⟨by omega, ?_⟩);rw[<-hk];congr 1;simp;omega
theorem lx{P:cZ}{t:aE}{d:TypeDesc}(h:P.underlying t=ah d)(hb:rY d=ai)(w:bM):(Go.isAgg t).run P w= .ok ak w:=by simp only[Go.isAgg,cj,run_underlying h,bI];cases d<;>simp_all [rY]
theorem Ic{P:cZ}{T:Tab}(hE:eA P T){t:aE}{ti:TI}(h:T.ty t=ah ti)(w:bM):(sizeOf t).run P w= .ok ti.ks.length w:=by obtain⟨inf,hi,hs,_⟩:=hE.info t ti h;simp only[sizeOf,typeInfo,program,cj,nB,bI,hi,hs,cT]
section
variable {P:cZ} {ρ:Ren} {nm:String} {T:Tab}
theorem zO{e:aE}{te:TI}(he:T.ty e=ah te)(hρ:ρ.t 9=e)(hp:plain te.ks=ai)(hE:eA P T)(l:L P ρ nm te.ks.length)
  (P0:∀args w,(callFunc (ρ.f 29) args).run P w=((fG #[ρ.t 24,ρ.t 24] #[ρ.t 4] args).run P w).andThen λv w'=> .ok (.value v) w')
  (hfn:∃fn,P.funcs[ρ.f 22]? =ah fn/\fn.body.isSome=ai/\(fn.name== "runtime.NumGoroutine")=ak):lY P T (ρ.f 22) (xV e te.bytes):=by
 have zN:L5 te.ks=true:=bu.2 λk hk=>by have:=bu.1 hp k hk;cases k<;>simp_all
 obtain⟨inf,hi,gj,hby,ly,hzz⟩:=hE.info e te he;obtain⟨z,hz,hzc,_⟩:=hzz zN;have Re:z.cells.size=te.ks.length:=by rw[hzc];simp
 intro args r h w c1 vs cg hs hv;refine⟨hfn, ?_⟩
 unfold xV at h;split at h
 ·rename_i e1 xs i e2 ys;cases hb:(bF e1 e&&bF e2 e)with
  |false=>rw[hb]at h;cases h
  |true=>
   rw[hb,au]at h;simp only[aM]at hb;have:=aW hb.1;subst this;have:=aW hb.2;subst this;have h:=aJ h;obtain⟨hc,rfl⟩:=bY h;simp only[aM,bh,cw]at hc;obtain⟨⟨c0,c2⟩,c3,c4⟩:=hc;obtain⟨v0,g0,s0⟩:=hv 0 _ rfl;obtain⟨v1,g1,s1⟩:=hv 1 _ rfl;obtain⟨v2,g2,s2⟩:=hv 2 _ rfl;have TK:vs= #[v0,v1,v2]:=by
    have h3:vs.size=3:=hs;apply Array.ext_getElem?;intro k;match k with
    |0=>rw[g0];rfl
    |1=>rw[g1];rfl
    |2=>rw[g2];rfl
    |k+3=>rw[Iu (by omega),Iu (by simp)]
   subst TK;have s0:v0=l_ (c1.P (dU 0 0)):=s0;have s1:v1= .int .i64 i:=s1;have s2:da T w c1.K v2 (.l e2 ys):=s2;subst s0;subst s1;have na:inj [.v ak [.ow e2 ai xs], .v ak [.i .i64 i], .v ak [.sh e2 ys]] (c9 (dU 0 0))= .o (.row e2 ai xs):=rfl;obtain⟨⟨ti,ht,HJ,mT⟩,gi,JI⟩:=cg.obj _ _ na;have hti:ti=te:=aJ (ht.symm.trans he);subst hti;generalize hpd:c1.P (dU 0 0)=p at gi HJ;have pre:Pre w p:=⟨λh=>by have:=gi.nil h;exact⟨by rw[gi.n,this.1];rfl,this.2⟩,λh=>by obtain⟨vals,q1,q2,q3,q4,_⟩:=gi.mem h;exact⟨vals,q1,q2,q3,q4⟩⟩
   obtain⟨n,rfl⟩:∃n:aE,i=(n:ax):=⟨i.toNat,by omega⟩
   have hnx:n<=xs.length:=by omega
   have Es:=Aa (E:=ofTab T) he s2;have JQ:∀y∈ys,y.length=ti.ks.length:=λy hy=>by rw[<-Es.2 y hy];simp
   have Yt:∀y∈xs,y.length=ti.ks.length:=λy hy=>by rw[<-mT y hy];simp
   obtain⟨B,vc,news,N1,n1,n2,n3⟩:=Es.1.list JQ;have cellOf:∀k,k<ys.length*ti.ks.length->∃y x,ys[k/ti.ks.length]? =ah y/\y[k%ti.ks.length]? =ah x/\k/ti.ks.length*ti.ks.length+k%ti.ks.length=k:=by
    intro k hk;have h1:k/ti.ks.length<ys.length:=by rw[yN ly];exact hk
    have h2:k%ti.ks.length<ys[k/ti.ks.length].length:=by rw[JQ _ (bB h1)];exact DM _ ly
    refine⟨_,_,eR h1,eR h2, ?_⟩
    have:=KD k ti.ks.length;rw[ET]at this;exact this
   have xT:∀v∈news,v.oneCell'=true:=λv hv=>by
    obtain⟨k,hk⟩:=b7 hv;have Eo:k<ys.length*ti.ks.length:=by rw[<-n1];exact(aT.1 hk).1
    obtain⟨y,x,q1,q2,q3⟩:=cellOf k Eo;obtain⟨u,hu,hr⟩:=n3 _ _ _ _ q1 q2;rw[q3,hk]at hu;cases hu;exact da.one (E:=ofTab T) hr
   have hKne:∀b,c1.K b->p.nil=ak->b≠p.blk:=λb hk hn he=>by exact cg.kk _ _ p.blk na (.inl ⟨by rw[hpd];exact hn,by rw[hpd]⟩) (he▸hk)
   have hB:ys.length=0\/∃b2 o2,B=ah (ad b2 o2)/\(p.nil=ak->b2≠p.blk)/\∀j u,news[j]? =ah u->w.cell? (ad b2 (o2+j))=ah u:=by
    rcases n2 with rfl|⟨b2,o2,rfl,hc2⟩
    ·exact .inl rfl
    ·by_cases h0:ys=[]
     ·subst h0;exact .inl rfl
     ·refine .inr ⟨b2,o2,rfl,λhn=> ?_,hc2⟩;exact hKne _ (holdsK s2 h0 N1) hn
   have xrel:∀(k:aE) (y:az CV) (j:aE) (x:CV),p.nil=ak->xs[k]? =ah y->y[j]? =ah x->∃u,w.cell? (ad p.blk (p.off+k*p.sz+j))=ah u/\Sc u x:=by intro k y j x hn hk hj;obtain⟨vals,q1,q2,q3,q4,q5⟩:=gi.mem hn;obtain⟨u,hu,hr⟩:=q5 k y j x hk hj;rw[bA rfl]at hr;exact⟨u,by rw[q1.cell];exact hu,uS (E:=ofTab T) hr (iv hp (mT y (aR hk)) hj)⟩
   have hone2:∀vals k v,p.nil=ak->n8 w p.blk vals->k<p.n*p.sz->vals[p.off+k]? =ah v->v.oneCell'=true:=by
    intro vals k v hn hbv hk hkv;rw[HJ]at hk;have h1:k/ti.ks.length<xs.length:=by rw[yN ly,<-gi.n];exact hk
    have h2:k%ti.ks.length<xs[k/ti.ks.length].length:=by rw[Yt _ (bB h1)];exact DM _ ly
    obtain⟨u,hu,hsc⟩:=xrel _ _ _ _ hn (eR h1) (eR h2);have:=KD k ti.ks.length;rw[ET]at this;rw[HJ,show p.off+k/ti.ks.length*ti.ks.length+k%ti.ks.length=p.off+k by omega,hbv.cell,hkv]at hu;cases hu;rw[hsc.1];exact Kr
   rw[N1];obtain⟨p',w',hI,hcal⟩:=insert_run (P:=P) (sz:=ti.ks.length) l (by rw[hρ];exact hi) hz Re gj ly P0 HJ pre (i:=n) (m:=ys.length) (vc:=vc) (by rw[gi.n];exact hnx) n1 hB xT (by rw[gi.n,hby];exact c3) (by rw[gi.n];exact c4) (λvals k v h1 h2 h3 h4=>hone2 vals k v h1 h2 (by rw[HJ];exact h3) h4);refine hcal.mono ?_;intro e1 w2 hh;rw[hh.1,hh.2];show SL T _ _ c1 w (l_ p') w';rw[dK];generalize hzd:Pu.tN xs n ys=zs;have LP:zs.length=xs.length+ys.length:=by rw[<-hzd];unfold Pu.tN;simp;omega
   have hzg:∀(k:aE) (y:az CV),zs[k]? =ah y->(k<n/\xs[k]? =ah y)\/(n<=k/\k<n+ys.length/\ys[k-n]? =ah y)\/(n+ys.length<=k/\xs[k-ys.length]? =ah y):=λk y hk=>insR_get hnx k y (by rw[hzd];exact hk);have hzsh:∀y∈zs,y.map CV.kd=ti.ks:=λy hy=>by
    obtain⟨k,hk⟩:=b7 hy;rcases hzg k y hk with ⟨_,h⟩|⟨_,_,h⟩|⟨_,h⟩
    ·exact mT y (aR h)
    ·exact Es.2 y (aR h)
    ·exact mT y (aR h)
   have hzp:∀(k:aE) (y:az CV) (j:aE) (x:CV),zs[k]? =ah y->y[j]? =ah x->uI x=false:=λk y j x hk hj=>iv hp (hzsh y (aR hk)) hj;let c3:eZ:=⟨λm=>if m=dU 500 0 then p' else c1.P m,λm=>if m=dU 500 0 then(λ_ _=>⟨ai,0,0,0,0,0⟩)else c1.G m,c1.K⟩
   have hP3:c3.P (dU 500 0)=p':=by simp[c3]
   have hG3:c3.G (dU 500 0)=λ_ _=>⟨ai,0,0,0,0,0⟩:=by simp[c3]
   have hO:∀m o,oA [.v ak [.ow e2 ai xs], .v ak [.i .i64 n], .v ak [.sh e2 ys]] ⟨[.v ak [.ow e2 ai zs]],[]⟩ (c9 m)= .o o->m=dU 500 0/\o= .row e2 ai zs:=by intro m o ho;have hm:=n6 ho (by simp);simp[Mj,Md,vA,tL,FJ,Db,tY]at hm;exact⟨j4 hm.1,hm.2⟩
   have hX:oA [.v ak [.ow e2 ai xs], .v ak [.i .i64 n], .v ak [.sh e2 ys]] ⟨[.v ak [.ow e2 ai zs]],[]⟩ (c9 (dU 500 0))= .o (.row e2 ai zs):=rfl;have C5:∀i j,¬gm zs i j:=by rintro i j ⟨y,x,h1,h2,h3⟩;rw[hzp i y j x h1 h2]at h3;cases h3
   have noInnX:∀i j,¬gm xs i j:=by rintro i j ⟨y,x,h1,h2,h3⟩;rw[iv hp (mT y (aR h1)) h2]at h3;cases h3
   have JF:∀b,fL c3 (dU 500 0) (.row e2 ai zs) b->p'.nil=ak/\b=p'.blk:=by
    rintro b (⟨h1,h2⟩|⟨_,i,j,h,_⟩)
    ·rw[hP3]at h1 h2;exact⟨h1,h2⟩
    ·exact cL h (C5 i j)
   have hOwn1:p.nil=ak->wS (inj [.v ak [.ow e2 ai xs], .v ak [.i .i64 n], .v ak [.sh e2 ys]]) c1 p.blk:=λhn=>⟨_,_,na, .inl ⟨by rw[hpd];exact hn,by rw[hpd]⟩⟩
   have zM:p'.nil=ak->p'.blk=w.heap.size\/wS (inj [.v ak [.ow e2 ai xs], .v ak [.i .i64 n], .v ak [.sh e2 ys]]) c1 p'.blk:=λhn=>by
    rcases hI.blk hn with ⟨q1,q2⟩|q
    ·rw[q2];exact .inr (hOwn1 q1)
    ·exact .inl q
   have hKp:∀b,c1.K b->¬(p'.nil=ak/\b=p'.blk):=by
    rintro b hk ⟨hn,rfl⟩;rcases zM hn with h|h
    ·have:=cg.lt _ hk;omega
    ·exact cg.J7 h hk
   refine⟨c3,⟨?_, ?_, ?_, ?_, ?_⟩,⟨hI.os,hI.tape,hI.output,hI.size,λb hb=>hb, ?_, ?_,λb hb=> .inl hb⟩, ?_, ?_⟩
   ·intro m o ho;obtain⟨rfl,rfl⟩:=hO m o ho;refine⟨⟨ti,he,by rw[hP3,hI.sz,HJ],hzsh⟩, ?_,λ_=>⟨λi j h=>cL h (C5 i j),λi j i' j' h=>cL h (C5 i j)⟩⟩
    rw[hP3];refine⟨by rw[hI.n,gi.n,LP],λhn=> ?_,λhn=> ?_⟩
    ·obtain⟨q1,q2,q3⟩:=hI.nil hn;rw[gi.n]at q2;exact⟨gh (by omega),q1⟩
    ·obtain⟨je,q1,q2,q3,q4,q5,q6,q7⟩:=hI.mem hn;refine⟨je,q1,q2,q3,q4,λk y j x hk hj=> ?_⟩
     simp only[if_true];have hnl:=hzp k y j x hk hj;have j8:j<ti.ks.length:=by rw[<-hzsh y (aR hk),bV];exact(aT.1 hj).1
     have fin:∀u:bn,Sc u x->je[p'.off+k*p'.sz+j]? =ah u->∃u:bn,je[p'.off+k*p'.sz+j]? =ah u/\XC T w' (c3.G (dU 500 0)) k j u x:=λu h1 h2=>⟨u,h2,uQ (E:=ofTab T) hnl h1⟩
     have pnil:∀(k:aE) (y:az CV),xs[k]? =ah y->p.nil=false:=λk y h=>by
      cases hq:p.nil with
      |false=>rfl
      |true=>have hx:=(gi.nil hq).1;subst hx;cases h
     rw[hI.sz]at fin⊢;rcases hzg k y hk with ⟨r1,r2⟩|⟨r1,r2,r3⟩|⟨r1,r2⟩
     ·obtain⟨u,hu,hsc⟩:=xrel k y j x (pnil k y r2) r2 hj;have hb1:k*p.sz+j<n*p.sz:=by have:=b_ p.sz (show k+1<=n from r1);rw[dn]at this;rw[HJ]at this⊢;omega
      refine fin u hsc ?_;rw[mi];exact q5 _ u hb1 (by rw[<-mi];exact hu)
     ·obtain⟨u,hu,hr⟩:=n3 (k-n) y j x r3 hj;have hb1:(k-n)*p.sz+j<ys.length*p.sz:=by have:=b_ p.sz (show k-n+1<=ys.length by omega);rw[dn]at this;rw[HJ]at this⊢;omega
      refine fin u (pC (E:=ofTab T) hr hnl) ?_;have:=q6 _ hb1;rw[HJ]at this⊢;rw[hu,<-mi,vp]at this;have hmn:n*ti.ks.length<=k*ti.ks.length:=b_ _ r1;rw[<-this];congr 1;omega
     ·obtain⟨u,hu,hsc⟩:=xrel (k-ys.length) y j x (pnil _ y r2) r2 hj;have hkx:k-ys.length<xs.length:=(aT.1 r2).1;have hb1:(k-(n+ys.length))*p.sz+j<(p.n-n)*p.sz:=by have:=b_ p.sz (show k-(n+ys.length)+1<=p.n-n by rw[gi.n];omega);rw[dn]at this;rw[HJ]at this⊢;omega
      refine fin u hsc ?_;have:=q7 _ u hb1;rw[HJ]at this hu⊢;have m1:(n+ys.length)*ti.ks.length<=k*ti.ks.length:=b_ _ r1;have e1:(k-(n+ys.length))*ti.ks.length=k*ti.ks.length-(n+ys.length)*ti.ks.length:=vp _ _ _;have e2:(k-ys.length)*ti.ks.length=k*ti.ks.length-ys.length*ti.ks.length:=vp _ _ _;have e3:(n+ys.length)*ti.ks.length=n*ti.ks.length+ys.length*ti.ks.length:=dn _ _ _;rw[e1]at this;rw[e2]at hu;have:=this (by rw[<-hu];congr 2;omega);rw[<-this];congr 1;omega
   ·intro m o m' o' b h1 h2 _ _;obtain⟨rfl,_⟩:=hO m o h1;obtain⟨rfl,_⟩:=hO m' o' h2;rfl
   ·intro m o b h1 h2 h3;obtain⟨rfl,rfl⟩:=hO m o h1;exact hKp b h3 (JF b h2)
   ·intro b hb;exact jy (cg.lt b hb) hI.size
   ·intro m bs h1;obtain⟨_,h2⟩:=hO m _ h1;cases h2
   ·intro b hb LK;refine hI.old b hb (λhn he=> ?_);subst he;rcases zM hn with h|h
    ·omega
    ·exact LK h
   ·rintro b ⟨m,o,h1,h2⟩;obtain⟨rfl,rfl⟩:=hO m o h1;obtain⟨q1,rfl⟩:=JF b h2;rcases zM q1 with h|h
    ·exact .inr (by omega)
    ·exact .inl h
   ·intro m hm;have:m≠dU 500 0:=by rintro rfl;apply hm;rfl
    exact⟨bJ this,bJ this⟩
   ·show qo T w' c3 ak [.own (dU 500 0)] (l_ p');show l_ p'=l_ (c3.P (dU 500 0));rw[hP3]
 ·cases h
end
end Go.FG.Ins

