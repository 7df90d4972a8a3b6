/- slices.Insert at elements of plain cells, over any program that bears its text: a call of it does what is told. No condition but those that are stated. -/
import Derived.Test.YtjejmgffiilmlaaGreatLib
import Derived.Shelf.Bodies2
import Derived.Shelf.RegionOpenPlain
import Derived.WalkKit
import Derived.Lib.Walk
import Derived.Lib.SliceRun
import Derived.Lib.JoinLaws
import Derived.Lib.AppendZeros
import Derived.Lib.Overlaps
import Derived.Laws.Externs
import Derived.Laws.IdiomCopy
import Derived.Lib.AppendZerosOnto
set_option linter.unusedVariables false
set_option linter.unusedSimpArgs false
set_option maxRecDepth 100000
open Array renaming length_toList->dm,getElem?_toList->cF,getElem?_eq_some_iff->dL,append_assoc->Mr,getElem?_append_left->CU,getElem?_eq_none->FY
open Bool renaming true->ai,false->ak,and_eq_true->aJ
open Go renaming Program->cM,World->bD,Oper->eV,Operand->da,Value->bf,TypeInfo->ID
open Go.Act renaming eval->Gk,put->Tm
open Go.Builtin renaming copy_->gh,append_->gZ,firstCells->eU,lenOf->oO,zeroCells->fu
open Go.Extern.SlicesOverlaps renaming overlaps->gE
open Go.IntKind renaming i64->ao,wrap_i64->py
open Go.Lib renaming wpList_append_run->s5
open Go.Oper renaming wp->Mw
open Go.Region renaming wanted->ud
open Go.Result renaming andThen_ok->bA
open Go.Sem renaming run_bind->ca,run_pure->cG,run->mH
open Go.Value renaming bool->B3
open Go.World renaming cell?_of_block->tJ,shape?->XE,frozen?->XD,setRow->iZ
open Int renaming toNat_natCast->dU
open List renaming map_toArray->Cj,map_cons->eW,map_nil->Av,length_take->er,length_drop->eL,getElem?_take->dR,getElem?_drop->dJ,getElem?_of_mem->bX,getElem?_eq_some_iff->aT,getElem?_eq_getElem->eF,size_toArray->Tv,getElem?_toArray->gV,append_assoc->ch,getElem?_append_left->dr,getElem?_append_right->cX,all_eq_true->bu,getElem_mem->bC,mem_of_getElem?->aP,eq_nil_of_length_eq_zero->fV,length_map->bN
open Nat renaming min->PE,le_refl->cu,eq_zero_or_pos->B5,add_zero->wY,mul_le_mul_right->bY,add_mul->c7,sub_mul->ue,min_def->KF,add_assoc->lB,zero_add->bT,beq->bn,eq_of_beq_eq_true->aR,div_lt_iff_lt_mul->wJ,mod_lt->B6,div_add_mod->Ic,mul_comm->C5,lt_of_lt_of_le->ig
open Option renaming some->ah,none->aj
open Option.some renaming inj->aD
open Prod.mk renaming inj->bS
open _root_ renaming Nat->aE,Array->c_,List->ay,if_pos->bw,Option->aC,Int->az,if_neg->bH,absurd->cE,Bool->aW,cond_true->au,decide_eq_true_eq->bc
namespace Go.FG.Ins
open Go Go.Shelf Go.RowKit Go.Lib Go.Proofs
structure L (P:cM) (ρ:Ren) (nm:String) (sz:aE):Prop where
 mixed:P.follows .mixedOrders=ai
 f22:P.funcs[ρ.f 22]? =ah {Body2.n22 ρ with name:=nm}
 t3:P.underlying (ρ.t 3)=ah (TypeDesc.int ao)
 a3:∀w,(Go.isAgg (ρ.t 3)).run P w= .ok ak w
 t4:P.underlying (ρ.t 4)=ah (TypeDesc.bool)
 a4:∀w,(Go.isAgg (ρ.t 4)).run P w= .ok ak w
 t24:P.underlying (ρ.t 24)=ah (TypeDesc.slice (ρ.t 9))
 a24:∀w,(Go.isAgg (ρ.t 24)).run P w= .ok ak w
 z9:∀w,(Go.sizeOf (ρ.t 9)).run P w= .ok sz w
variable {P:cM} {ρ:Ren} {nm:String} {sz:aE}
theorem wpList_copy(w:bD){ops:c_ eV}{rest:ay eV}{o:eV}{a:Act}{Q:Exit->Act->bD->Prop}(hgd:o.guard=aj)(d s:da)(t t':TypeId)
  (ho:o.op= .call {callee:= .builtin .copy,args:= #[d,s],argTypes:= #[t,t']}) (v u:bf) (hd:a.eval d=v) (hs:a.eval s=u) {v':bf} {w':bD}
  (hr:(gh #[t,t'] o.type #[v,u]).run P w= .ok v' w') (h:wpList P ops Q rest (a.put o.dst v') w'):wpList P ops Q (o::rest) a w:=
 wpList_plain hgd λ_ hK=>by
  unfold Mw execOp;simp only[ho,resolve,invoke,builtin,ca,cG,bA,Cj,eW,Av,hd,hs,hr];exact hK _ _ h
theorem step_copy{ops:c_ eV}{o:eV}{a:Act}{w:bD}{K:Act->bD->Prop}{Q:Exit->Act->bD->Prop}{E:Prop}
  (hg:o.guard=aj) (d x:da) (dT sT:TypeId) (hop:o.op=Op.call {callee:=Callee.builtin Builtin.copy,args:= #[d,x],argTypes:= #[dT,sT]})
  (v u:bf) (hd:a.eval d=v) (hx:a.eval x=u) {v':bf} {w':bD} (hr:(gh #[dT,sT] o.type #[v,u]).run P w= .ok v' w') (hK:K (a.put o.dst v') w'):
  if ud o (yielded ops a.tmps)=ai then Mw P o a w K Q else E:=by
 have hw:ud o (yielded ops a.tmps)=true:=by simp[ud,hg]
 rw[bw hw];unfold Mw;simp[execOp,hop,resolve,invoke,builtin,hd,hx,hr,Result.andThen];exact hK
set_option maxHeartbeats 4000000 in
set_option maxRecDepth 100000 in
theorem zero(l:L P ρ nm sz)(w:bD)(A B:aC Addr)(n c i vc:aE)(hi:i<=n)(hn:n<=9223372036854775807)(hA:A=aj/\n=0\/∃b o,A=ah ⟨b,o,aj⟩):
  Calls P (ρ.f 22) #[.slice A n c, .int .i64 i, .slice B 0 vc] w λe w'=>e= .returned (.slice A n c)/\w'=w:=by
 have t3:=l.t3;have a3:=l.a3;have t4:=l.t4;have a4:=l.a4;have t24:=l.t24;have a24:=l.a24;have z9:=l.z9;have u3:=run_underlying l.t3;have u4:=run_underlying l.t4;have u24:=run_underlying l.t24;have hb1:(0:az)<=(i:az):=by omega
 have Dw:(i:az)<=(n:az):=by omega
 go_enter l.f22,Body2.n22_ntmps ρ;rcases hA with ⟨rfl,rfl⟩|⟨b,o,rfl⟩
 ·obtain rfl:i=0:=by omega
  go_wp2;go_ret;exact⟨rfl,rfl⟩
 ·go_wp2;all_goals (go_ret;exact⟨rfl,rfl⟩)
set_option maxHeartbeats 4000000 in
set_option maxRecDepth 100000 in
theorem atEnd(l:L P ρ nm sz)(w w1:bD)(A B:aC Addr)(n c m vc:aE)(r:bf)(hm:0<m)(hn:n<=9223372036854775807)(hA:A=aj/\n=0\/∃b o,A=ah ⟨b,o,aj⟩)
  (h1:∀ty,(gZ #[ρ.t 24,ρ.t 24] ty #[.slice A n c, .slice B m vc]).run P w= .ok r w1):
  Calls P (ρ.f 22) #[.slice A n c, .int .i64 n, .slice B m vc] w λe w'=>e= .returned r/\w'=w1:=by
 have t3:=l.t3;have a3:=l.a3;have t4:=l.t4;have a4:=l.a4;have t24:=l.t24;have a24:=l.a24;have z9:=l.z9;have u3:=run_underlying l.t3;have u4:=run_underlying l.t4;have u24:=run_underlying l.t24;have Io:¬((m:az)=0):=by omega
 go_enter l.f22,Body2.n22_ntmps ρ;rcases hA with ⟨rfl,rfl⟩|⟨b,o,rfl⟩
 ·go_wp2_with (at_builtin;refine s5 _ rfl _ _ _ _ rfl _ _ rfl rfl _ _ (h1 _) ?_)
  go_ret;exact⟨rfl,rfl⟩
 ·go_wp2_with (at_builtin;refine s5 _ rfl _ _ _ _ rfl _ _ rfl rfl _ _ (h1 _) ?_)
  all_goals (go_ret;exact⟨rfl,rfl⟩)
set_option maxHeartbeats 4000000 in
set_option maxRecDepth 100000 in
theorem shift(l:L P ρ nm sz)(w w1 w2:bD)(x1 x2:bf)(b o n c i m vc:aE)(B:aC Addr)(hi:i<n)(hm:0<m)(hroom:n+m<=c)(hc63:c<=9223372036854775807)
  (M9:∀lb cb,(callFunc (ρ.f 29) #[.slice B m vc, .slice (ah ⟨b,o+(i+m)*sz,aj⟩) lb cb]).run P w= .ok (.value (.bool ak)) w)
  (h1:∀ty,(gh #[ρ.t 24,ρ.t 24] ty #[.slice (ah ⟨b,o+(i+m)*sz,aj⟩) (n+m-(i+m)) (c-(i+m)), .slice (ah ⟨b,o+i*sz,aj⟩) (n+m-i) (c-i)]).run P w.drew= .ok x1 w1)
  (h2:∀ty,(gh #[ρ.t 24,ρ.t 24] ty #[.slice (ah ⟨b,o+i*sz,aj⟩) (n+m-i) (c-i), .slice B m vc]).run P w1= .ok x2 w2):
  Calls P (ρ.f 22) #[.slice (ah ⟨b,o,aj⟩) n c, .int .i64 i, .slice B m vc] w λe w'=>e= .returned (.slice (ah ⟨b,o,aj⟩) (n+m) c)/\w'=w2:=by
 have t3:=l.t3;have a3:=l.a3;have t4:=l.t4;have a4:=l.a4;have t24:=l.t24;have a24:=l.a24;have z9:=l.z9;have u3:=run_underlying l.t3;have u4:=run_underlying l.t4;have u24:=run_underlying l.t24;have Io:¬((m:az)=0):=by omega
 have CJ:¬((i:az)=(n:az)):=by omega
 have mixed:=l.mixed;have hw1:ao.wrap ((i:az)+(m:az))=(i:az)+(m:az):=by rw[py];omega
 have hb1:(0:az)<=(i:az)+(m:az):=by omega
 have g9:i<=n:=by omega
 have htn:((i:az)+(m:az)).toNat=i+m:=by omega
 have Dw:¬(c=i+m):=by omega
 have hb3:(i:az)<=(n:az)+(m:az):=by omega
 have hb4:¬(c=i):=by omega
 go_enter l.f22,Body2.n22_ntmps ρ;go_wp2_with (simp only[M9])
 go_region_law_o (refine step_copy rfl _ _ (ρ.t 24) (ρ.t 24) rfl _ _ (by simp[Gk,Tm]) (by simp[Gk,Tm]) (h1 _) ?_);go_wp2_with (at_builtin;refine wpList_copy _ rfl _ _ (ρ.t 24) (ρ.t 24) rfl _ _ rfl rfl (h2 _) ?_)
 go_ret;exact⟨rfl,rfl⟩
set_option maxHeartbeats 4000000 in
set_option maxRecDepth 100000 in
theorem grow(l:L P ρ nm sz)(w w1 w2 w3:bD)(x2 x3:bf)(b o b' n c c' i m vc:aE)(B:aC Addr)(hi:i<n)(hm:0<m)(Qv:n<=c)(hroom:c<n+m)(E5:n+m<=9223372036854775807)(G_:n+m<=c')(hc63:c'<=9223372036854775807)
  (h1:∀ty,(gZ #[ρ.t 24,ρ.t 3] ty #[.slice (ah ⟨b,o,aj⟩) i c, .int .i64 ((n:az)+(m:az)-(i:az))]).run P w= .ok (.slice (ah ⟨b',0,aj⟩) (n+m) c') w1)
  (h2:∀ty,(gh #[ρ.t 24,ρ.t 24] ty #[.slice (ah ⟨b',i*sz,aj⟩) (n+m-i) (c'-i), .slice B m vc]).run P w1= .ok x2 w2)
  (h3:∀ty,(gh #[ρ.t 24,ρ.t 24] ty #[.slice (ah ⟨b',(i+m)*sz,aj⟩) (n+m-(i+m)) (c'-(i+m)), .slice (ah ⟨b,o+i*sz,aj⟩) (n-i) (c-i)]).run P w2.drew= .ok x3 w3):
  Calls P (ρ.f 22) #[.slice (ah ⟨b,o,aj⟩) n c, .int .i64 i, .slice B m vc] w λe w'=>e= .returned (.slice (ah ⟨b',0,aj⟩) (n+m) c')/\w'=w3:=by
 have t3:=l.t3;have a3:=l.a3;have t4:=l.t4;have a4:=l.a4;have t24:=l.t24;have a24:=l.a24;have z9:=l.z9;have u3:=run_underlying l.t3;have u4:=run_underlying l.t4;have u24:=run_underlying l.t24;have Io:¬((m:az)=0):=by omega
 have CJ:¬((i:az)=(n:az)):=by omega
 have hz3:(c:az)<(n:az)+(m:az):=by omega
 have mixed:=l.mixed;have hw0:ao.wrap ((n:az)+(m:az))=(n:az)+(m:az):=by rw[py];omega
 have hw2:ao.wrap ((n:az)+(m:az)-(i:az))=(n:az)+(m:az)-(i:az):=by rw[py];omega
 have hw1:ao.wrap ((i:az)+(m:az))=(i:az)+(m:az):=by rw[py];omega
 have hb1:(0:az)<=(i:az)+(m:az):=by omega
 have g9:i<=n:=by omega
 have htn:((i:az)+(m:az)).toNat=i+m:=by omega
 have hGi:¬(c'=i):=by omega
 have hGim:¬(c'=i+m):=by omega
 have hci:¬(c=i):=by omega
 have hic:i<=c:=by omega
 have hb3:(i:az)<=(n:az):=by omega
 have hb4:(i:az)<=(n:az)+(m:az):=by omega
 go_enter l.f22,Body2.n22_ntmps ρ
 go_wp2_with (first
  |(at_builtin;refine s5 _ rfl _ _ _ _ rfl _ _ rfl rfl _ _ (h1 _) ?_)
  |(at_builtin;refine wpList_copy _ rfl _ _ (ρ.t 24) (ρ.t 24) rfl _ _ rfl rfl (h2 _) ?_))
 go_region_law_o (refine step_copy rfl _ _ (ρ.t 24) (ρ.t 24) rfl (.slice (ah ⟨b',(i+m)*sz,aj⟩) (n+m-(i+m)) (c'-(i+m))) (.slice (ah ⟨b,o+i*sz,aj⟩) (n-i) (c-i)) (by simp[Gk,Tm]) (by simp[Gk,Tm]) (h3 (ρ.t 3)) ?_);go_wp2;go_ret;exact⟨rfl,rfl⟩
end Go.FG.Ins

namespace Go.FG.Ins
open Go Go.Shelf Go.RowKit Go.Lib Go.Proofs
section
variable {P:cM}
theorem run_copyG{w:bD}{dT sT ty elem sz b o dLen dCap sLen sCap m:aE}{B:aC Addr}{cs:ay bf}{cur:c_ bf}(hu:P.underlying dT=ah (.slice elem))(hs:∀w,(sizeOf elem).run P w= .ok sz w)
  (hf:(eU sz m (.slice B sLen sCap)).run P w= .ok cs.toArray w) (hm:PE sLen dLen=m) (hb:mY w b cur) (hl:o+cs.length<=cur.size) (h1:∀v∈cs,v.oneCell'=ai):
  (gh #[dT,sT] ty #[.slice (ah (ad b o)) dLen dCap, .slice B sLen sCap]).run P w= .ok (goInt m) (w.setRow b (dQ cur o cs)):=by have Jz:=mW (P:=P) w hb hl h1;have uZ:min sLen dLen=m:=hm;simp[gh,run_underlying hu,oO,hs,uZ,hf,Jz]
theorem blk_drew{w:bD}{b:aE}{cur:c_ bf}(h:mY w b cur):mY w.drew b cur:=h
theorem cell_setRow_other{w:bD}{b b2 o:aE}{new:c_ bf}(h:b2≠b):(w.setRow b new).cell? (ad b2 o)=w.cell? (ad b2 o):=tJ (setRow_other w b b2 _ h)
structure Insd (w w':bD) (p p':Pl) (i m:aE) (news:ay bf):Prop where
 n:p'.n=p.n+m
 sz:p'.sz=p.sz
 nil:p'.nil=ai->p'.cap=0/\p.n=0/\m=0
 mem:p'.nil=ak->∃iQ,mY w' p'.blk iQ/\p'.n<=p'.cap/\p'.cap<=maxLen/\p'.off+p'.cap*p'.sz<=iQ.size/\
  (∀k u,k<i*p.sz->w.cell? (ad p.blk (p.off+k))=ah u->iQ[p'.off+k]? =ah u)/\(∀k,k<m*p.sz->iQ[p'.off+i*p.sz+k]? =news[k]?)/\
  (∀k u,k<(p.n-i)*p.sz->w.cell? (ad p.blk (p.off+i*p.sz+k))=ah u->iQ[p'.off+(i+m)*p.sz+k]? =ah u)
 blk:p'.nil=ak->(p.nil=ak/\p'.blk=p.blk)\/p'.blk=w.heap.size
 old:∀b,b<w.heap.size->(p'.nil=ak->b≠p'.blk)->w'.heap[b]? =w.heap[b]?
 size:w.heap.size<=w'.heap.size
 os:w'.os=w.os
 tape:w'.tape=w.tape
 output:w'.output=w.output
structure Pre (w:bD) (p:Pl):Prop where
 nil:p.nil=ai->p.n=0/\p.cap=0
 mem:p.nil=ak->∃vals,mY w p.blk vals/\p.n<=p.cap/\p.cap<=maxLen/\p.off+p.cap*p.sz<=vals.size
variable {ρ:Ren} {nm:String}
theorem overlaps_false{w:bD}{tS tR e:TypeId}(ht:P.underlying tS=ah (.slice e)){size:aE}(hz:∀w,(Go.sizeOf e).run P w= .ok size w){B:aC Addr}{m vc b o:aE}{vals:c_ bf}(hb:mY w b vals)(ho:o<vals.size)
  (hB:∀a,B=ah a->0<m->a.block≠b/\∃t k,w.shape? a.block=ah (t,k+1)) (lb cb:aE):
  (gE #[tS,tS] #[tR] #[.slice B m vc, .slice (ah (ad b o)) lb cb]).run P w= .ok (.bool ak) w:=by
 obtain⟨t,fr,hg,CD⟩:=hb;have hsb:w.shape? b=ah (t,vals.size):=by simp[XE,hg]
 have f1:w.frozen? ⟨b,o,aj⟩=false:=by have:=CD o (by omega);simpa [XD,hg]using this
 have f2:w.frozen? ⟨b,vals.size,aj⟩=false:=by have:=CD vals.size (cu _);simpa [XD,hg]using this
 have hne0:vals.size≠0:=by omega
 change mH P (α:=bf) (do
  let ah t:=(#[tS,tS]:c_ TypeId)[0]? |stuck "slices.overlaps: no parameter types"
  let .slice elem<-underlying t|stuck "slices.overlaps: slice type expected"
  let size<-sizeOf elem
  match B,(ah (ad b o):aC Addr)with
  |some a,ah b=>
   if m=0\/lb=0\/size=0 then pure (B3 ak)
   else if a.block !=b.block&&(<-frozen a)&&(<-frozen b)then unsupported .addressObserved
   else do
    if a.block !=b.block then do
     noView a;noView b
     if<-mayBeOne a b then return B3 ((<-choose (.extern "sameAddr.stringBytes" 2))==1)
    pure (B3 (a.block==b.block&&a.off<b.off+lb*size&&b.off<a.off+m*size))
  |_,_=>pure (B3 ak)) w=_
 cases B with
 |none=>simp[run_underlying ht,hz]
 |some a=>
  by_cases h0:m=0\/lb=0\/size=0
  ·simp[run_underlying ht,hz,h0]
  ·have hm:0<m:=by omega
   obtain⟨il,ta,k,hsa⟩:=hB a rfl hm;have Hg:(a.block !=b)=true:=by simpa using il
   have hnb':(a.block==b)=false:=by simpa using il
   obtain⟨n,hn⟩:∃n,vals.size=n+1:=⟨vals.size-1,by omega⟩
   rw[hn]at hsb f2;simp[run_underlying ht,hz,h0,Hg,hnb',il,frozen,noView,viewAt,mayBeOne,stringish,shape,mH,hsa,hsb,f1,f2]
theorem first_of{w:bD}{sz m b o len cap:aE}{cs:ay bf}(hl:cs.length=m*sz)(h:∀j u,cs[j]? =ah u->w.cell? (ad b (o+j))=ah u):(eU sz m (.slice (ah (ad b o)) len cap)).run P w= .ok cs.toArray w:=
 run_firstCells_some w sz m _ _ _ cs hl (λj v hj=>by rw[Addr.mK];exact h j v hj)
theorem insert_run{sz:aE}(l:L P ρ nm sz){inf:ID}{z:bf}(hi:P.info? (ρ.t 9)=ah inf)(hz:inf.zero=ah z)(N6:z.cells.size=sz)(fH:inf.size=sz)(kC:0<sz)
  (M9:∀args w,(callFunc (ρ.f 29) args).run P w=((gE #[ρ.t 24,ρ.t 24] #[ρ.t 4] args).run P w).andThen λv w'=> .ok (.value v) w')
  {w:bD} {p:Pl} (hp:p.sz=sz) (pre:Pre w p) {i m vc:aE} {B:aC Addr} {news:ay bf} (g9:i<=p.n) (hv:news.length=m*sz) (hB:m=0\/∃b2 o2,B=ah (ad b2 o2)/\(p.nil=ak->b2≠p.blk)/\∀j u,news[j]? =ah u->w.cell? (ad b2 (o2+j))=ah u)
  (v5:∀v∈news,v.oneCell'=ai) (h1:(p.n+m)*inf.bytes<=140737488355328) (h2:p.n+m<=9223372036854775807) (hone2:∀vals k v,p.nil=ak->mY w p.blk vals->k<p.n*sz->vals[p.off+k]? =ah v->v.oneCell'=ai):
  ∃p' w',Insd w w' p p' i m news/\Calls P (ρ.f 22) #[kY p, .int .i64 i, .slice B m vc] w (λe w2=>e= .returned (kY p')/\w2=w'):=by
 subst hp;have Yn:p.n<=9223372036854775807:=by omega
 rcases B5 m with rfl|hm
 ·refine⟨p,w,⟨rfl,rfl,λh=>⟨(pre.nil h).2,(pre.nil h).1,rfl⟩,λh=> ?_,λh=> .inl ⟨h,rfl⟩,λ_ _ _=>rfl,cu _,rfl,rfl,rfl⟩, ?_⟩
  ·obtain⟨vals,hb,q1,q2,q3⟩:=pre.mem h;refine⟨vals,hb,q1,q2,q3,λk u _ hu=>by rw[<-hb.cell];exact hu,λk hk=>by simp at hk,λk u _ hu=> ?_⟩
   rw[<-hb.cell,wY];exact hu
  ·cases hq:p.nil with
   |true=>have h0:=(pre.nil hq).1;rw[mg hq];have:=zero l w aj B 0 0 i vc (by omega) (by omega) (.inl ⟨rfl,rfl⟩);exact this
   |false=>rw[eG hq];exact zero l w _ B p.n p.cap i vc g9 Yn (.inr ⟨_,_,rfl⟩)
 ·obtain⟨b2,o2,rfl,Dw,hcell⟩:=hB.resolve_left (by omega);by_cases hend:i=p.n
  ·subst hend;have happ:App P w (ρ.t 24) (.slice (ah (ad b2 o2)) m vc) z.cells p.sz m news:=by refine⟨.inl ⟨.inl ⟨_,l.t24⟩,by simp[oO],first_of hv hcell,first_of (w:=w.drew) hv hcell⟩,hv,v5⟩
   obtain⟨p',w',hr,hA⟩:=sP (P:=P) (w:=w) (t:=ρ.t 24) (u:=ρ.t 24) (ty:=0) (p:=p) l.t24 hi hz N6 fH (λh=>(pre.nil h).1) pre.mem happ h1 h2;refine⟨p',w',⟨hA.n,hA.sz,hA.nil,λh=> ?_,hA.blk,hA.old,hA.size,hA.os,hA.tape,hA.output⟩, ?_⟩
   ·obtain⟨iQ,q1,q2,q3,q4,q5,q6⟩:=hA.mem h;exact⟨iQ,q1,q2,q3,q4,q5,q6,λk u hk _=>by simp at hk⟩
   ·have CG:∀ty,(gZ #[ρ.t 24,ρ.t 24] ty #[kY p, .slice (ah (ad b2 o2)) m vc]).run P w= .ok (kY p') w':=λty=>hr;cases hq:p.nil with
    |true=>have h0:=(pre.nil hq).1;rw[mg hq]at CG⊢;have:=atEnd l w w' aj (ah (ad b2 o2)) 0 0 m vc (kY p') hm (by omega) (.inl ⟨rfl,rfl⟩) CG;rw[h0];exact this
    |false=>rw[eG hq]at CG⊢;exact atEnd l w w' _ (ah (ad b2 o2)) p.n p.cap m vc (kY p') hm Yn (.inr ⟨_,_,rfl⟩) CG
  ·have jt:i<p.n:=by omega
   have hq:p.nil=false:=by
    cases h:p.nil with
    |false=>rfl
    |true=>have:=(pre.nil h).1;omega
   obtain⟨vals,hb,Qv,UX,mz⟩:=pre.mem hq;have il:=Dw hq;rw[eG hq];have m1:i*p.sz<=p.n*p.sz:=bY _ g9;have m2:p.n*p.sz<=p.cap*p.sz:=bY _ Qv;have e1:(i+m)*p.sz=i*p.sz+m*p.sz:=c7 _ _ _;have e2:(p.n-i)*p.sz=p.n*p.sz-i*p.sz:=ue _ _ _;have m0:i*p.sz+p.sz<=p.n*p.sz:=by have:=bY p.sz (show i+1<=p.n by omega);rwa[c7,Nat.one_mul]at this
   have hp0:p.sz<=m*p.sz:=Nat.le_mul_of_pos_left _ hm;have n1:PE (p.n+m-i) (p.n+m-(i+m))=p.n-i:=by simp only[KF];split<;>omega
   have n2:PE m (p.n+m-i)=m:=by simp only[KF];split<;>omega
   have n3:PE (p.n-i) (p.n+m-(i+m))=p.n-i:=by simp only[KF];split<;>omega
   let tail:=(vals.toList.drop (p.off+i*p.sz)).take ((p.n-i)*p.sz);have htl:tail.length=(p.n-i)*p.sz:=by simp only[tail,er,eL,dm];omega
   have htg:∀k,k<(p.n-i)*p.sz->tail[k]? =vals[p.off+i*p.sz+k]? :=λk hk=>by simp only[tail,dR,bw hk,dJ,cF]
   have TQ:∀v∈tail,v.oneCell'=true:=λv hv=>by
    obtain⟨k,hk⟩:=bX hv;have N2:k<(p.n-i)*p.sz:=by rw[<-htl];exact(aT.1 hk).1
    rw[htg k N2]at hk;exact hone2 vals (i*p.sz+k) v hq hb (by omega) (by rw[<-lB];exact hk)
   by_cases hroom:p.n+m<=p.cap
   ·-- in place
    have m3:(p.n+m)*p.sz<=p.cap*p.sz:=bY _ hroom;rw[c7]at m3;have Lm:p.off+(i+m)*p.sz+tail.length<=vals.size:=by rw[htl];omega
    have hb1:mY (w.drew.setRow p.blk (dQ vals (p.off+(i+m)*p.sz) tail)) p.blk (dQ vals (p.off+(i+m)*p.sz) tail):=mY.setRow (w:=w.drew) (blk_drew hb) (eN Lm);have Jx:p.off+i*p.sz+news.length<=(dQ vals (p.off+(i+m)*p.sz) tail).size:=by rw[eN Lm,hv];omega
    have c1:∀ty,(gh #[ρ.t 24,ρ.t 24] ty #[.slice (ah ⟨p.blk,p.off+(i+m)*p.sz,aj⟩) (p.n+m-(i+m)) (p.cap-(i+m)), .slice (ah ⟨p.blk,p.off+i*p.sz,aj⟩) (p.n+m-i) (p.cap-i)]).run P w.drew= .ok (goInt ((p.n-i:aE):az)) (w.drew.setRow p.blk (dQ vals (p.off+(i+m)*p.sz) tail)):=λty=>
     run_copyG (P:=P) (w:=w.drew) l.t24 l.z9 (first_of (w:=w.drew) htl (λj u hj=>by
      have js:j<(p.n-i)*p.sz:=by rw[<-htl];exact(aT.1 hj).1
      rw[htg j js]at hj;exact(hb.cell _).trans hj)) n1 (blk_drew hb) Lm TQ
    have c2:∀ty,(gh #[ρ.t 24,ρ.t 24] ty #[.slice (ah ⟨p.blk,p.off+i*p.sz,aj⟩) (p.n+m-i) (p.cap-i), .slice (ah (ad b2 o2)) m vc]).run P (w.drew.setRow p.blk (dQ vals (p.off+(i+m)*p.sz) tail))= .ok (goInt m) ((w.drew.setRow p.blk (dQ vals (p.off+(i+m)*p.sz) tail)).setRow p.blk (dQ (dQ vals (p.off+(i+m)*p.sz) tail) (p.off+i*p.sz) news)):=λty=>
     run_copyG (P:=P) l.t24 l.z9 (first_of hv (λj u hj=>by rw[cell_setRow_other il];exact hcell j u hj)) n2 hb1 Jx v5
    have hcal:=shift l w _ _ _ _ p.blk p.off p.n p.cap i m vc (ah (ad b2 o2)) jt hm hroom UX (λlb cb=>by
     rw[M9,overlaps_false (P:=P) (w:=w) l.t24 l.z9 hb (o:=p.off+(i+m)*p.sz) (by omega) (λa ha _=>by
      cases ha;have h0:0<news.length:=by rw[hv];omega
      have:=hcell 0 _ (eF h0);refine⟨il, ?_⟩
      unfold World.cell? at this;unfold XE;split at this
      ·rename_i cc tt ff hg;rw[hg];simp at this;obtain⟨hlt2,_⟩:=dL.1 this;exact⟨tt,cc.size-1,by simp;omega⟩
      ·cases this) lb cb]
     rfl) c1 c2
    refine⟨⟨ak,p.blk,p.off,p.cap,p.n+m,p.sz⟩,(w.drew.setRow p.blk (dQ vals (p.off+(i+m)*p.sz) tail)).setRow p.blk (dQ (dQ vals (p.off+(i+m)*p.sz) tail) (p.off+i*p.sz) news),⟨rfl,rfl,λh=>(by cases h),λ_=> ?_,λ_=> .inl ⟨hq,rfl⟩,λb N0 Hg=> ?_,by simp[iZ],rfl,rfl,rfl⟩,by rw[eG rfl];exact hcal⟩
    ·refine⟨_,hb1.setRow (eN Jx),hroom,UX,by rw[eN Jx,eN Lm];exact mz,λk u hk hu=> ?_,λk hk=> ?_,λk u hk hu=> ?_⟩
     ·show(dQ (dQ vals (p.off+(i+m)*p.sz) tail) (p.off+i*p.sz) news)[p.off+k]? =ah u;rw[f_ Jx,bH (by omega),f_ Lm,bH (by omega),<-hb.cell];exact hu
     ·show(dQ (dQ vals (p.off+(i+m)*p.sz) tail) (p.off+i*p.sz) news)[p.off+i*p.sz+k]? =news[k]?;rw[f_ Jx,bw (by rw[hv];omega)];congr 1;omega
     ·show(dQ (dQ vals (p.off+(i+m)*p.sz) tail) (p.off+i*p.sz) news)[p.off+(i+m)*p.sz+k]? =ah u;rw[f_ Jx,bH (by rw[hv];omega),f_ Lm,bw (by rw[htl];omega),show p.off+(i+m)*p.sz+k-(p.off+(i+m)*p.sz)=k by omega,htg k hk,<-hb.cell];exact hu
    ·have hbne:b≠p.blk:=Hg rfl;rw[setRow_other _ _ b _ hbne,setRow_other _ _ b _ hbne];rfl
   ·-- a new row
    have hgo:p.cap<p.n+m:=by omega
    let oI:=(vals.toList.drop p.off).take (i*p.sz);have Gc:oI.length=i*p.sz:=by simp only[oI,er,eL,dm];omega
    have hog:∀k,k<i*p.sz->oI[k]? =vals[p.off+k]? :=λk hk=>by simp only[oI,dR,bw hk,dJ,cF]
    have hik:i+(p.n+m-i)=p.n+m:=by omega
    have Qs:(p.n:az)+(m:az)-(i:az)=((p.n+m-i:aE):az):=by omega
    have hold:(eU inf.size i (.slice (ah (ad p.blk p.off)) i p.cap)).run P w.drew= .ok oI.toArray w.drew:=by
     rw[fH];exact first_of (w:=w.drew) Gc (λj u hj=>by
      have js:j<i*p.sz:=by rw[<-Gc];exact(aT.1 hj).1
      rw[hog j js]at hj;exact(hb.cell _).trans hj)
    have hG:=grownCap_ge w (p.n+m) p.cap (ρ.t 9);have hG2:=grownCap_le_maxLen w (p.n+m) p.cap (ρ.t 9) (by unfold maxLen;omega);generalize hGd:grownCap w (p.n+m) p.cap (ρ.t 9)=G at hG hG2;obtain⟨arr,harr⟩:∃arr:c_ bf,arr=oI.toArray++fu z.cells (p.n+m-i)++fu z.cells (G-(p.n+m)):=⟨_,rfl⟩
    have a1:∀ty,(gZ #[ρ.t 24,ρ.t 3] ty #[.slice (ah ⟨p.blk,p.off,aj⟩) i p.cap, .int .i64 ((p.n:az)+(m:az)-(i:az))]).run P w= .ok (.slice (ah ⟨w.heap.size,0,aj⟩) (p.n+m) G) (w.drew.alloc (.cells arr (ρ.t 9))):=λty=>by have hmb:(p.n+m-i)*inf.bytes<=(p.n+m)*inf.bytes:=bY _ (by omega);have h:=Lib.run_append_grow_zeros w (ρ.t 24) (ρ.t 3) ty (ρ.t 9) inf z .i64 .i64 l.t24 l.t3 hi hz (ah (ad p.blk p.off)) i p.cap oI hold (p.n+m-i) (by omega) (by omega) (by omega) (by omega) (by omega) (by rw[hik];exact growslice_fits hgo h1);rw[hik,hGd,<-harr]at h;rw[Qs];exact h
    have sarr:arr.size=i*p.sz+(p.n+m-i)*p.sz+(G-(p.n+m))*p.sz:=by rw[harr];simp only[Array.size_append,Tv,size_zeroCells,N6,Gc]
    have e3:(p.n+m-i)*p.sz=p.n*p.sz+m*p.sz-i*p.sz:=by rw[ue,c7]
    have e4:G*p.sz=(p.n*p.sz+m*p.sz)+(G-(p.n+m))*p.sz:=by rw[<-c7,<-c7];congr 1;omega
    have hbw:p.blk<w.heap.size:=hb.lt;have UW:mY (w.drew.alloc (.cells arr (ρ.t 9))) w.heap.size arr:=mY.alloc w.drew arr _;have Lm:i*p.sz+news.length<=arr.size:=by rw[sarr,hv];omega
    have hb1:=UW.setRow (new:=dQ arr (i*p.sz) news) (eN Lm);have Jx:(i+m)*p.sz+tail.length<=(dQ arr (i*p.sz) news).size:=by rw[eN Lm,sarr,htl];omega
    have hb2w:b2<w.heap.size:=by
     have h0:0<news.length:=by rw[hv];omega
     exact block_lt_of_cell (hcell 0 _ (eF h0))
    have oldc:∀b o,b<w.heap.size->(w.drew.alloc (.cells arr (ρ.t 9))).cell? (ad b o)=w.cell? (ad b o):=λb o hbl=>tJ (heap_alloc_old w.drew _ hbl);have c1:∀ty,(gh #[ρ.t 24,ρ.t 24] ty #[.slice (ah ⟨w.heap.size,i*p.sz,aj⟩) (p.n+m-i) (G-i), .slice (ah (ad b2 o2)) m vc]).run P (w.drew.alloc (.cells arr (ρ.t 9)))= .ok (goInt m) ((w.drew.alloc (.cells arr (ρ.t 9))).setRow w.heap.size (dQ arr (i*p.sz) news)):=λty=>
     run_copyG (P:=P) l.t24 l.z9 (first_of hv (λj u hj=>by rw[oldc _ _ hb2w];exact hcell j u hj)) n2 UW Lm v5
    have c2:∀ty,(gh #[ρ.t 24,ρ.t 24] ty #[.slice (ah ⟨w.heap.size,(i+m)*p.sz,aj⟩) (p.n+m-(i+m)) (G-(i+m)), .slice (ah ⟨p.blk,p.off+i*p.sz,aj⟩) (p.n-i) (p.cap-i)]).run P ((w.drew.alloc (.cells arr (ρ.t 9))).setRow w.heap.size (dQ arr (i*p.sz) news)).drew= .ok (goInt ((p.n-i:aE):az)) (((w.drew.alloc (.cells arr (ρ.t 9))).setRow w.heap.size (dQ arr (i*p.sz) news)).drew.setRow w.heap.size (dQ (dQ arr (i*p.sz) news) ((i+m)*p.sz) tail)):=λty=>
     run_copyG (P:=P) (w:=((w.drew.alloc (.cells arr (ρ.t 9))).setRow w.heap.size (dQ arr (i*p.sz) news)).drew) l.t24 l.z9 (first_of htl (λj u hj=>by
      have js:j<(p.n-i)*p.sz:=by rw[<-htl];exact(aT.1 hj).1
      rw[htg j js]at hj;show((w.drew.alloc (.cells arr (ρ.t 9))).setRow w.heap.size (dQ arr (i*p.sz) news)).cell? (ad p.blk (p.off+i*p.sz+j))=ah u;rw[cell_setRow_other (by omega),oldc _ _ hbw];exact(hb.cell _).trans hj)) n3 (blk_drew hb1) Jx TQ
    have hcal:=grow l w _ _ _ _ _ p.blk p.off w.heap.size p.n p.cap G i m vc (ah (ad b2 o2)) jt hm Qv hgo h2 hG hG2 a1 c1 c2;refine⟨⟨ak,w.heap.size,0,G,p.n+m,p.sz⟩,((w.drew.alloc (.cells arr (ρ.t 9))).setRow w.heap.size (dQ arr (i*p.sz) news)).drew.setRow w.heap.size (dQ (dQ arr (i*p.sz) news) ((i+m)*p.sz) tail),⟨rfl,rfl,λh=>(by cases h),λ_=> ?_,λ_=> .inr rfl,λb N0 Hg=> ?_,by simp[iZ],rfl,rfl,rfl⟩,by rw[eG rfl];exact hcal⟩
    ·refine⟨_,mY.setRow (w:=((w.drew.alloc (.cells arr (ρ.t 9))).setRow w.heap.size (dQ arr (i*p.sz) news)).drew) (blk_drew hb1) (eN Jx),hG,hG2,by rw[eN Jx,eN Lm,sarr];show 0+G*p.sz<=_;omega,λk u hk hu=> ?_,λk hk=> ?_,λk u hk hu=> ?_⟩
     ·show(dQ (dQ arr (i*p.sz) news) ((i+m)*p.sz) tail)[0+k]? =ah u;rw[bT,f_ Jx,bH (by omega),f_ Lm,bH (by omega),harr,Mr,CU (by simp[Gc];omega),gV,hog k hk,<-hb.cell];exact hu
     ·show(dQ (dQ arr (i*p.sz) news) ((i+m)*p.sz) tail)[0+i*p.sz+k]? =news[k]?;rw[bT,f_ Jx,bH (by omega),f_ Lm,bw (by rw[hv];omega)];congr 1;omega
     ·show(dQ (dQ arr (i*p.sz) news) ((i+m)*p.sz) tail)[0+(i+m)*p.sz+k]? =ah u;rw[bT,f_ Jx,bw (by rw[htl];omega),show(i+m)*p.sz+k-(i+m)*p.sz=k by omega,htg k hk,<-hb.cell];exact hu
    ·have hbne:b≠w.heap.size:=by omega
     rw[setRow_other _ _ b _ hbne];show((w.drew.alloc (.cells arr (ρ.t 9))).setRow w.heap.size (dQ arr (i*p.sz) news)).heap[b]? =_;rw[setRow_other _ _ b _ hbne,heap_alloc_old w.drew _ N0];rfl
end
end Go.FG.Ins

namespace Go.FG.Ins
open Go Go.Shelf Go.RowKit Go.Lib Go.Proofs
abbrev ofTab(T:Tab):fm:={toTab:=T,call:=λ_ _=>aj,om:=λ_ _=> .nat,mode:=λ_ _=>ak,keep:=λ_=>[],tk:=λ_=>false}
theorem holdsK{T:Tab}{w:bD}{K:aE->Prop}{v:bf}{e:aE}{ys:aU}(h:cT T w K v (.l e ys))(h0:ys≠[]){b o n c:aE}(hv:v= .slice (ah (ad b o)) n c):K b:=by
 cases h with
 |nl=>exact cE rfl h0
 |l e xs b' o' c' S5 U ht hc hm hK hs hcell g9=>cases hv;exact hK
def zZ(e bytes:aE):ay eQ->aC (aW×dE)
 |[.v ak [.ow e1 ai xs], .v ak [.i .i64 i], .v ak [.sh e2 ys]]=>bif bn e1 e&&bn e2 e then
  ah (decide (0<=i)&&decide (i<=(xs.length:az))&&cB (xs.length+ys.length) bytes,⟨[.v ak [.ow e ai (Pu.yr xs i.toNat ys)]],[]⟩)else aj
 |_=>aj
theorem insR_get{xs ys:aU}{i:aE}(h:i<=xs.length)(k:aE)(y:ay CV)(hk:(Pu.yr xs i ys)[k]? =ah y):
  (k<i/\xs[k]? =ah y)\/(i<=k/\k<i+ys.length/\ys[k-i]? =ah y)\/(i+ys.length<=k/\xs[k-ys.length]? =ah y):=by
 unfold Pu.yr at hk;have hl:(xs.take i).length=i:=by simp;omega
 by_cases h1:k<i
 ·rw[ch,dr (by omega),dR,bw h1]at hk;exact .inl ⟨h1,hk⟩
 ·by_cases h2:k<i+ys.length
  ·rw[ch,cX (by omega),hl,dr (by omega)]at hk;exact .inr (.inl ⟨by omega,h2,hk⟩)
  ·rw[cX (by simp;omega),dJ]at hk;refine .inr (.inr ⟨by omega, ?_⟩);rw[<-hk];congr 1;simp;omega
theorem n8{P:cM}{t:aE}{d:TypeDesc}(h:P.underlying t=ah d)(hb:qT d=ai)(w:bD):(Go.isAgg t).run P w= .ok ak w:=by simp only[Go.isAgg,ca,run_underlying h,bA];cases d<;>simp_all [qT]
theorem LR{P:cM}{T:Tab}(hE:d_ P T){t:aE}{ti:TI}(h:T.ty t=ah ti)(w:bD):(sizeOf t).run P w= .ok ti.ks.length w:=by obtain⟨inf,hi,hs,_⟩:=hE.info t ti h;simp only[sizeOf,typeInfo,program,ca,mH,bA,hi,hs,cG]
section
variable {P:cM} {ρ:Ren} {nm:String} {T:Tab}
theorem Dz{e:aE}{te:TI}(he:T.ty e=ah te)(hρ:ρ.t 9=e)(hp:plain te.ks=ai)(hE:d_ P T)(l:L P ρ nm te.ks.length)
  (M9:∀args w,(callFunc (ρ.f 29) args).run P w=((gE #[ρ.t 24,ρ.t 24] #[ρ.t 4] args).run P w).andThen λv w'=> .ok (.value v) w')
  (hfn:∃fn,P.funcs[ρ.f 22]? =ah fn/\fn.body.isSome=ai/\(fn.name== "runtime.NumGoroutine")=ak):k_ P T (ρ.f 22) (zZ e te.bytes):=by
 have yq:JN te.ks=true:=bu.2 λk hk=>by have:=bu.1 hp k hk;cases k<;>simp_all
 obtain⟨inf,hi,fH,hby,kC,hzz⟩:=hE.info e te he;obtain⟨z,hz,hzc,_⟩:=hzz yq;have N6:z.cells.size=te.ks.length:=by rw[hzc];simp
 intro args r h w c1 vs b7 hs hv;refine⟨hfn, ?_⟩
 unfold zZ at h;split at h
 ·rename_i e1 xs i e2 ys;cases hb:(bn e1 e&&bn e2 e)with
  |false=>rw[hb]at h;cases h
  |true=>
   rw[hb,au]at h;simp only[aJ]at hb;have:=aR hb.1;subst this;have:=aR hb.2;subst this;have h:=aD h;obtain⟨hc,rfl⟩:=bS h;simp only[aJ,bc,cB]at hc;obtain⟨⟨c0,c2⟩,c3,c4⟩:=hc;obtain⟨v0,g0,s0⟩:=hv 0 _ rfl;obtain⟨v1,g1,s1⟩:=hv 1 _ rfl;obtain⟨v2,g2,s2⟩:=hv 2 _ rfl;have QG:vs= #[v0,v1,v2]:=by
    have h3:vs.size=3:=hs;apply Array.ext_getElem?;intro k;match k with
    |0=>rw[g0];rfl
    |1=>rw[g1];rfl
    |2=>rw[g2];rfl
    |k+3=>rw[FY (by omega),FY (by simp)]
   subst QG;have s0:v0=kY (c1.P (dK 0 0)):=s0;have s1:v1= .int .i64 i:=s1;have s2:cT T w c1.K v2 (.l e2 ys):=s2;subst s0;subst s1;have mh:inj [.v ak [.ow e2 ai xs], .v ak [.i .i64 i], .v ak [.sh e2 ys]] (cR (dK 0 0))= .o (.row e2 ai xs):=rfl;obtain⟨⟨ti,ht,E_,lj⟩,fG,Hd⟩:=b7.obj _ _ mh;have hti:ti=te:=aD (ht.symm.trans he);subst hti;generalize hpd:c1.P (dK 0 0)=p at fG E_;have pre:Pre w p:=⟨λh=>by have:=fG.nil h;exact⟨by rw[fG.n,this.1];rfl,this.2⟩,λh=>by obtain⟨vals,q1,q2,q3,q4,_⟩:=fG.mem h;exact⟨vals,q1,q2,q3,q4⟩⟩
   obtain⟨n,rfl⟩:∃n:aE,i=(n:az):=⟨i.toNat,by omega⟩
   have hnx:n<=xs.length:=by omega
   have CH:=yG (E:=ofTab T) he s2;have Fc:∀y∈ys,y.length=ti.ks.length:=λy hy=>by rw[<-CH.2 y hy];simp
   have Vd:∀y∈xs,y.length=ti.ks.length:=λy hy=>by rw[<-lj y hy];simp
   obtain⟨B,vc,news,Lp,n1,n2,n3⟩:=CH.1.list Fc;have cellOf:∀k,k<ys.length*ti.ks.length->∃y x,ys[k/ti.ks.length]? =ah y/\y[k%ti.ks.length]? =ah x/\k/ti.ks.length*ti.ks.length+k%ti.ks.length=k:=by
    intro k hk;have h1:k/ti.ks.length<ys.length:=by rw[wJ kC];exact hk
    have h2:k%ti.ks.length<ys[k/ti.ks.length].length:=by rw[Fc _ (bC h1)];exact B6 _ kC
    refine⟨_,_,eF h1,eF h2, ?_⟩
    have:=Ic k ti.ks.length;rw[C5]at this;exact this
   have v5:∀v∈news,v.oneCell'=true:=λv hv=>by
    obtain⟨k,hk⟩:=bX hv;have N2:k<ys.length*ti.ks.length:=by rw[<-n1];exact(aT.1 hk).1
    obtain⟨y,x,q1,q2,q3⟩:=cellOf k N2;obtain⟨u,hu,hr⟩:=n3 _ _ _ _ q1 q2;rw[q3,hk]at hu;cases hu;exact cT.one (E:=ofTab T) hr
   have Qo:∀b,c1.K b->p.nil=ak->b≠p.blk:=λb hk hn he=>by exact b7.kk _ _ p.blk mh (.inl ⟨by rw[hpd];exact hn,by rw[hpd]⟩) (he▸hk)
   have hB:ys.length=0\/∃b2 o2,B=ah (ad b2 o2)/\(p.nil=ak->b2≠p.blk)/\∀j u,news[j]? =ah u->w.cell? (ad b2 (o2+j))=ah u:=by
    rcases n2 with rfl|⟨b2,o2,rfl,hc2⟩
    ·exact .inl rfl
    ·by_cases h0:ys=[]
     ·subst h0;exact .inl rfl
     ·refine .inr ⟨b2,o2,rfl,λhn=> ?_,hc2⟩;exact Qo _ (holdsK s2 h0 Lp) hn
   have xrel:∀(k:aE) (y:ay CV) (j:aE) (x:CV),p.nil=ak->xs[k]? =ah y->y[j]? =ah x->∃u,w.cell? (ad p.blk (p.off+k*p.sz+j))=ah u/\Sc u x:=by intro k y j x hn hk hj;obtain⟨vals,q1,q2,q3,q4,q5⟩:=fG.mem hn;obtain⟨u,hu,hr⟩:=q5 k y j x hk hj;rw[bw rfl]at hr;exact⟨u,by rw[q1.cell];exact hu,tE (E:=ofTab T) hr (gJ hp (lj y (aP hk)) hj)⟩
   have hone2:∀vals k v,p.nil=ak->mY w p.blk vals->k<p.n*p.sz->vals[p.off+k]? =ah v->v.oneCell'=true:=by
    intro vals k v hn hbv hk hkv;rw[E_]at hk;have h1:k/ti.ks.length<xs.length:=by rw[wJ kC,<-fG.n];exact hk
    have h2:k%ti.ks.length<xs[k/ti.ks.length].length:=by rw[Vd _ (bC h1)];exact B6 _ kC
    obtain⟨u,hu,hsc⟩:=xrel _ _ _ _ hn (eF h1) (eF h2);have:=Ic k ti.ks.length;rw[C5]at this;rw[E_,show p.off+k/ti.ks.length*ti.ks.length+k%ti.ks.length=p.off+k by omega,hbv.cell,hkv]at hu;cases hu;rw[hsc.1];exact HV
   rw[Lp];obtain⟨p',w',hI,hcal⟩:=insert_run (P:=P) (sz:=ti.ks.length) l (by rw[hρ];exact hi) hz N6 fH kC M9 E_ pre (i:=n) (m:=ys.length) (vc:=vc) (by rw[fG.n];exact hnx) n1 hB v5 (by rw[fG.n,hby];exact c3) (by rw[fG.n];exact c4) (λvals k v h1 h2 h3 h4=>hone2 vals k v h1 h2 (by rw[E_];exact h3) h4);refine hcal.mono ?_;intro e1 w2 hh;rw[hh.1,hh.2];show PF T _ _ c1 w (kY p') w';rw[dU];generalize hzd:Pu.yr xs n ys=zs;have JD:zs.length=xs.length+ys.length:=by rw[<-hzd];unfold Pu.yr;simp;omega
   have hzg:∀(k:aE) (y:ay CV),zs[k]? =ah y->(k<n/\xs[k]? =ah y)\/(n<=k/\k<n+ys.length/\ys[k-n]? =ah y)\/(n+ys.length<=k/\xs[k-ys.length]? =ah y):=λk y hk=>insR_get hnx k y (by rw[hzd];exact hk);have hzsh:∀y∈zs,y.map CV.kd=ti.ks:=λy hy=>by
    obtain⟨k,hk⟩:=bX hy;rcases hzg k y hk with ⟨_,h⟩|⟨_,_,h⟩|⟨_,h⟩
    ·exact lj y (aP h)
    ·exact CH.2 y (aP h)
    ·exact lj y (aP h)
   have hzp:∀(k:aE) (y:ay CV) (j:aE) (x:CV),zs[k]? =ah y->y[j]? =ah x->tf x=false:=λk y j x hk hj=>gJ hp (hzsh y (aP hk)) hj;let c3:eJ:=⟨λm=>if m=dK 500 0 then p' else c1.P m,λm=>if m=dK 500 0 then(λ_ _=>⟨ai,0,0,0,0,0⟩)else c1.G m,c1.K⟩
   have hP3:c3.P (dK 500 0)=p':=by simp[c3]
   have hG3:c3.G (dK 500 0)=λ_ _=>⟨ai,0,0,0,0,0⟩:=by simp[c3]
   have hO:∀m o,nL [.v ak [.ow e2 ai xs], .v ak [.i .i64 n], .v ak [.sh e2 ys]] ⟨[.v ak [.ow e2 ai zs]],[]⟩ (cR m)= .o o->m=dK 500 0/\o= .row e2 ai zs:=by intro m o ho;have hm:=np ho (by simp);simp[J4,JV,uk,sE,Dy,Bz,sL]at hm;exact⟨jw hm.1,hm.2⟩
   have hX:nL [.v ak [.ow e2 ai xs], .v ak [.i .i64 n], .v ak [.sh e2 ys]] ⟨[.v ak [.ow e2 ai zs]],[]⟩ (cR (dK 500 0))= .o (.row e2 ai zs):=rfl;have Bs:∀i j,¬fP zs i j:=by rintro i j ⟨y,x,h1,h2,h3⟩;rw[hzp i y j x h1 h2]at h3;cases h3
   have noInnX:∀i j,¬fP xs i j:=by rintro i j ⟨y,x,h1,h2,h3⟩;rw[gJ hp (lj y (aP h1)) h2]at h3;cases h3
   have Hb:∀b,e8 c3 (dK 500 0) (.row e2 ai zs) b->p'.nil=ak/\b=p'.blk:=by
    rintro b (⟨h1,h2⟩|⟨_,i,j,h,_⟩)
    ·rw[hP3]at h1 h2;exact⟨h1,h2⟩
    ·exact cE h (Bs i j)
   have hOwn1:p.nil=ak->uJ (inj [.v ak [.ow e2 ai xs], .v ak [.i .i64 n], .v ak [.sh e2 ys]]) c1 p.blk:=λhn=>⟨_,_,mh, .inl ⟨by rw[hpd];exact hn,by rw[hpd]⟩⟩
   have tV:p'.nil=ak->p'.blk=w.heap.size\/uJ (inj [.v ak [.ow e2 ai xs], .v ak [.i .i64 n], .v ak [.sh e2 ys]]) c1 p'.blk:=λhn=>by
    rcases hI.blk hn with ⟨q1,q2⟩|q
    ·rw[q2];exact .inr (hOwn1 q1)
    ·exact .inl q
   have hKp:∀b,c1.K b->¬(p'.nil=ak/\b=p'.blk):=by
    rintro b hk ⟨hn,rfl⟩;rcases tV hn with h|h
    ·have:=b7.lt _ hk;omega
    ·exact b7.Fp h hk
   have QC:∀b,b<w.heap.size->¬uJ (inj [.v ak [.ow e2 ai xs], .v ak [.i .i64 n], .v ak [.sh e2 ys]]) c1 b->w'.heap[b]? =w.heap[b]? :=by
    intro b hb Hg;refine hI.old b hb (λhn he=> ?_);subst he;rcases tV hn with h|h
    ·omega
    ·exact Hg h
   refine⟨c3,⟨?_, ?_, ?_, ?_, ?_,T.gp.fr b7.gp (λb hb=>QC b (b7.lt b hb) (λho=>b7.Fp ho hb)) (λ_ h=>h)⟩,⟨hI.os,hI.tape,hI.output,hI.size,λb hb=>hb, ?_, ?_,λb hb=> .inl hb⟩, ?_, ?_⟩
   ·intro m o ho;obtain⟨rfl,rfl⟩:=hO m o ho;refine⟨⟨ti,he,by rw[hP3,hI.sz,E_],hzsh⟩, ?_,λ_=>⟨λi j h=>cE h (Bs i j),λi j i' j' h=>cE h (Bs i j)⟩⟩
    rw[hP3];refine⟨by rw[hI.n,fG.n,JD],λhn=> ?_,λhn=> ?_⟩
    ·obtain⟨q1,q2,q3⟩:=hI.nil hn;rw[fG.n]at q2;exact⟨fV (by omega),q1⟩
    ·obtain⟨iQ,q1,q2,q3,q4,q5,q6,q7⟩:=hI.mem hn;refine⟨iQ,q1,q2,q3,q4,λk y j x hk hj=> ?_⟩
     simp only[if_true];have hnl:=hzp k y j x hk hj;have js:j<ti.ks.length:=by rw[<-hzsh y (aP hk),bN];exact(aT.1 hj).1
     have fin:∀u:bf,Sc u x->iQ[p'.off+k*p'.sz+j]? =ah u->∃u:bf,iQ[p'.off+k*p'.sz+j]? =ah u/\XC T w' (c3.G (dK 500 0)) k j u x:=λu h1 h2=>⟨u,h2,tB (E:=ofTab T) hnl h1⟩
     have pnil:∀(k:aE) (y:ay CV),xs[k]? =ah y->p.nil=false:=λk y h=>by
      cases hq:p.nil with
      |false=>rfl
      |true=>have hx:=(fG.nil hq).1;subst hx;cases h
     rw[hI.sz]at fin⊢;rcases hzg k y hk with ⟨r1,r2⟩|⟨r1,r2,r3⟩|⟨r1,r2⟩
     ·obtain⟨u,hu,hsc⟩:=xrel k y j x (pnil k y r2) r2 hj;have hb1:k*p.sz+j<n*p.sz:=by have:=bY p.sz (show k+1<=n from r1);rw[c7]at this;rw[E_]at this⊢;omega
      refine fin u hsc ?_;rw[lB];exact q5 _ u hb1 (by rw[<-lB];exact hu)
     ·obtain⟨u,hu,hr⟩:=n3 (k-n) y j x r3 hj;have hb1:(k-n)*p.sz+j<ys.length*p.sz:=by have:=bY p.sz (show k-n+1<=ys.length by omega);rw[c7]at this;rw[E_]at this⊢;omega
      refine fin u (oF (E:=ofTab T) hr hnl) ?_;have:=q6 _ hb1;rw[E_]at this⊢;rw[hu,<-lB,ue]at this;have hmn:n*ti.ks.length<=k*ti.ks.length:=bY _ r1;rw[<-this];congr 1;omega
     ·obtain⟨u,hu,hsc⟩:=xrel (k-ys.length) y j x (pnil _ y r2) r2 hj;have hkx:k-ys.length<xs.length:=(aT.1 r2).1;have hb1:(k-(n+ys.length))*p.sz+j<(p.n-n)*p.sz:=by have:=bY p.sz (show k-(n+ys.length)+1<=p.n-n by rw[fG.n];omega);rw[c7]at this;rw[E_]at this⊢;omega
      refine fin u hsc ?_;have:=q7 _ u hb1;rw[E_]at this hu⊢;have m1:(n+ys.length)*ti.ks.length<=k*ti.ks.length:=bY _ r1;have e1:(k-(n+ys.length))*ti.ks.length=k*ti.ks.length-(n+ys.length)*ti.ks.length:=ue _ _ _;have e2:(k-ys.length)*ti.ks.length=k*ti.ks.length-ys.length*ti.ks.length:=ue _ _ _;have e3:(n+ys.length)*ti.ks.length=n*ti.ks.length+ys.length*ti.ks.length:=c7 _ _ _;rw[e1]at this;rw[e2]at hu;have:=this (by rw[<-hu];congr 2;omega);rw[<-this];congr 1;omega
   ·intro m o m' o' b h1 h2 _ _;obtain⟨rfl,_⟩:=hO m o h1;obtain⟨rfl,_⟩:=hO m' o' h2;rfl
   ·intro m o b h1 h2 h3;obtain⟨rfl,rfl⟩:=hO m o h1;exact hKp b h3 (Hb b h2)
   ·intro b hb;exact ig (b7.lt b hb) hI.size
   ·intro m bs h1;obtain⟨_,h2⟩:=hO m _ h1;cases h2
   ·intro b hb Hg;refine hI.old b hb (λhn he=> ?_);subst he;rcases tV hn with h|h
    ·omega
    ·exact Hg h
   ·rintro b ⟨m,o,h1,h2⟩;obtain⟨rfl,rfl⟩:=hO m o h1;obtain⟨q1,rfl⟩:=Hb b h2;rcases tV q1 with h|h
    ·exact .inr (by omega)
    ·exact .inl h
   ·intro m hm;have:m≠dK 500 0:=by rintro rfl;apply hm;rfl
    exact⟨bH this,bH this⟩
   ·show pD T w' c3 ak [.own (dK 500 0)] (kY p');show kY p'=kY (c3.P (dK 500 0));rw[hP3]
 ·cases h
end
end Go.FG.Ins

