/- slices.Insert at elements of plain cells, over any program that bears its text: a call of it does what is told. No condition but those that are stated. -/
import Derived.Test.YtjejmgffiilmlaaGreatLib
import Derived.Shelf.Bodies2
import Derived.Shelf.RegionOpenPlain
import Derived.WalkKit
import Derived.Lib.Walk
import Derived.Lib.SliceRun
import Derived.Lib.JoinLaws
import Derived.Lib.AppendZeros
import Derived.Lib.Overlaps
import Derived.Laws.Externs
import Derived.Laws.IdiomCopy
import Derived.Lib.AppendZerosOnto
set_option linter.unusedVariables false
set_option linter.unusedSimpArgs false
set_option maxRecDepth 100000
open Array renaming length_toList->dK,getElem?_toList->cO,getElem?_eq_some_iff->dN,append_assoc->Mx,getElem?_append_left->CQ,getElem?_eq_none->FR
open Bool renaming true->ak,false->aq,and_eq_true->aK
open Go renaming Program->cQ,World->bF,Oper->eV,Operand->dn,Value->bg,TypeInfo->IB
open Go.Act renaming eval->Gm,put->TA
open Go.Builtin renaming copy_->gd,append_->gY,firstCells->eU,lenOf->oX,zeroCells->fc
open Go.Extern.SlicesOverlaps renaming overlaps->gz
open Go.IntKind renaming i64->ar,wrap_i64->pI
open Go.Lib renaming wpList_append_run->sW
open Go.Oper renaming wp->MC
open Go.Region renaming wanted->ua
open Go.Result renaming andThen_ok->bB
open Go.Sem renaming run_bind->cg,run_pure->cL,run->mJ
open Go.Value renaming bool->BZ
open Go.World renaming cell?_of_block->tH,shape?->Xp,frozen?->Xo,setRow->kV
open Int renaming toNat_natCast->dx
open List renaming map_toArray->Cf,map_cons->eW,map_nil->Av,length_take->eg,length_drop->hZ,getElem?_take->dR,getElem?_drop->dJ,getElem?_of_mem->bZ,getElem?_eq_some_iff->aU,getElem?_eq_getElem->eD,size_toArray->TH,getElem?_toArray->gQ,append_assoc->cj,getElem?_append_left->dg,getElem?_append_right->cZ,all_eq_true->bn,getElem_mem->bD,mem_of_getElem?->aQ,eq_nil_of_length_eq_zero->fQ,length_map->bP
open Nat renaming min->PN,le_refl->cu,eq_zero_or_pos->B0,add_zero->wT,mul_le_mul_right->b7,add_mul->da,sub_mul->ub,min_def->KJ,add_assoc->lC,zero_add->bT,beq->bA,eq_of_beq_eq_true->aW,div_lt_iff_lt_mul->wF,mod_lt->B3,div_add_mod->Ig,mul_comm->CY,lt_of_lt_of_le->jb
open Option renaming some->aj,none->ao
open Option.some renaming inj->aF
open Prod.mk renaming inj->bU
open _root_ renaming Nat->aG,Array->de,List->az,if_pos->bC,Option->aD,Int->aA,if_neg->bL,absurd->cq,Bool->aY,cond_true->ay,decide_eq_true_eq->bf
namespace Go.FG.Ins
open Go Go.Shelf Go.RowKit Go.Lib Go.Proofs
structure L (P:cQ) (ρ:Ren) (nm:String) (sz:aG):Prop where
 mixed:P.follows .mixedOrders=ak
 f22:P.funcs[ρ.f 22]? =aj {Body2.n22 ρ with name:=nm}
 t3:P.underlying (ρ.t 3)=aj (TypeDesc.int ar)
 a3:∀w,(Go.isAgg (ρ.t 3)).run P w= .ok aq w
 t4:P.underlying (ρ.t 4)=aj (TypeDesc.bool)
 a4:∀w,(Go.isAgg (ρ.t 4)).run P w= .ok aq w
 t24:P.underlying (ρ.t 24)=aj (TypeDesc.slice (ρ.t 9))
 a24:∀w,(Go.isAgg (ρ.t 24)).run P w= .ok aq w
 z9:∀w,(Go.sizeOf (ρ.t 9)).run P w= .ok sz w
variable {P:cQ} {ρ:Ren} {nm:String} {sz:aG}
theorem wpList_copy(w:bF){ops:de eV}{rest:az eV}{o:eV}{a:Act}{Q:Exit->Act->bF->Prop}(hgd:o.guard=ao)(d s:dn)(t t':TypeId)
  (ho:o.op= .call {callee:= .builtin .copy,args:= #[d,s],argTypes:= #[t,t']}) (v u:bg) (hd:a.eval d=v) (hs:a.eval s=u) {v':bg} {w':bF}
  (hr:(gd #[t,t'] o.type #[v,u]).run P w= .ok v' w') (h:wpList P ops Q rest (a.put o.dst v') w'):wpList P ops Q (o::rest) a w:=
 wpList_plain hgd λ_ hK=>by
  unfold MC execOp;simp only[ho,resolve,invoke,builtin,cg,cL,bB,Cf,eW,Av,hd,hs,hr];exact hK _ _ h
theorem step_copy{ops:de eV}{o:eV}{a:Act}{w:bF}{K:Act->bF->Prop}{Q:Exit->Act->bF->Prop}{E:Prop}
  (hg:o.guard=ao) (d x:dn) (dT sT:TypeId) (hop:o.op=Op.call {callee:=Callee.builtin Builtin.copy,args:= #[d,x],argTypes:= #[dT,sT]})
  (v u:bg) (hd:a.eval d=v) (hx:a.eval x=u) {v':bg} {w':bF} (hr:(gd #[dT,sT] o.type #[v,u]).run P w= .ok v' w') (hK:K (a.put o.dst v') w'):
  if ua o (yielded ops a.tmps)=ak then MC P o a w K Q else E:=by
 have hw:ua o (yielded ops a.tmps)=true:=by simp[ua,hg]
 rw[bC hw];unfold MC;simp[execOp,hop,resolve,invoke,builtin,hd,hx,hr,Result.andThen];exact hK
set_option maxHeartbeats 4000000 in
set_option maxRecDepth 100000 in
theorem zero(l:L P ρ nm sz)(w:bF)(A B:aD Addr)(n c i vc:aG)(hi:i<=n)(hn:n<=9223372036854775807)(hA:A=ao/\n=0\/∃b o,A=aj ⟨b,o,ao⟩):
  Calls P (ρ.f 22) #[.slice A n c, .int .i64 i, .slice B 0 vc] w λe w'=>e= .returned (.slice A n c)/\w'=w:=by
 have t3:=l.t3;have a3:=l.a3;have t4:=l.t4;have a4:=l.a4;have t24:=l.t24;have a24:=l.a24;have z9:=l.z9;have u3:=run_underlying l.t3;have u4:=run_underlying l.t4;have u24:=run_underlying l.t24;have hb1:(0:aA)<=(i:aA):=by omega
 have Du:(i:aA)<=(n:aA):=by omega
 go_enter l.f22,Body2.n22_ntmps ρ;rcases hA with ⟨rfl,rfl⟩|⟨b,o,rfl⟩
 ·obtain rfl:i=0:=by omega
  go_wp2;go_ret;exact⟨rfl,rfl⟩
 ·go_wp2;all_goals (go_ret;exact⟨rfl,rfl⟩)
set_option maxHeartbeats 4000000 in
set_option maxRecDepth 100000 in
theorem atEnd(l:L P ρ nm sz)(w w1:bF)(A B:aD Addr)(n c m vc:aG)(r:bg)(hm:0<m)(hn:n<=9223372036854775807)(hA:A=ao/\n=0\/∃b o,A=aj ⟨b,o,ao⟩)
  (h1:∀ty,(gY #[ρ.t 24,ρ.t 24] ty #[.slice A n c, .slice B m vc]).run P w= .ok r w1):
  Calls P (ρ.f 22) #[.slice A n c, .int .i64 n, .slice B m vc] w λe w'=>e= .returned r/\w'=w1:=by
 have t3:=l.t3;have a3:=l.a3;have t4:=l.t4;have a4:=l.a4;have t24:=l.t24;have a24:=l.a24;have z9:=l.z9;have u3:=run_underlying l.t3;have u4:=run_underlying l.t4;have u24:=run_underlying l.t24;have Io:¬((m:aA)=0):=by omega
 go_enter l.f22,Body2.n22_ntmps ρ;rcases hA with ⟨rfl,rfl⟩|⟨b,o,rfl⟩
 ·go_wp2_with (at_builtin;refine sW _ rfl _ _ _ _ rfl _ _ rfl rfl _ _ (h1 _) ?_)
  go_ret;exact⟨rfl,rfl⟩
 ·go_wp2_with (at_builtin;refine sW _ rfl _ _ _ _ rfl _ _ rfl rfl _ _ (h1 _) ?_)
  all_goals (go_ret;exact⟨rfl,rfl⟩)
set_option maxHeartbeats 4000000 in
set_option maxRecDepth 100000 in
theorem shift(l:L P ρ nm sz)(w w1 w2:bF)(x1 x2:bg)(b o n c i m vc:aG)(B:aD Addr)(hi:i<n)(hm:0<m)(hroom:n+m<=c)(hc63:c<=9223372036854775807)
  (Nf:∀lb cb,(callFunc (ρ.f 29) #[.slice B m vc, .slice (aj ⟨b,o+(i+m)*sz,ao⟩) lb cb]).run P w= .ok (.value (.bool aq)) w)
  (h1:∀ty,(gd #[ρ.t 24,ρ.t 24] ty #[.slice (aj ⟨b,o+(i+m)*sz,ao⟩) (n+m-(i+m)) (c-(i+m)), .slice (aj ⟨b,o+i*sz,ao⟩) (n+m-i) (c-i)]).run P w.drew= .ok x1 w1)
  (h2:∀ty,(gd #[ρ.t 24,ρ.t 24] ty #[.slice (aj ⟨b,o+i*sz,ao⟩) (n+m-i) (c-i), .slice B m vc]).run P w1= .ok x2 w2):
  Calls P (ρ.f 22) #[.slice (aj ⟨b,o,ao⟩) n c, .int .i64 i, .slice B m vc] w λe w'=>e= .returned (.slice (aj ⟨b,o,ao⟩) (n+m) c)/\w'=w2:=by
 have t3:=l.t3;have a3:=l.a3;have t4:=l.t4;have a4:=l.a4;have t24:=l.t24;have a24:=l.a24;have z9:=l.z9;have u3:=run_underlying l.t3;have u4:=run_underlying l.t4;have u24:=run_underlying l.t24;have Io:¬((m:aA)=0):=by omega
 have CG:¬((i:aA)=(n:aA)):=by omega
 have mixed:=l.mixed;have hw1:ar.wrap ((i:aA)+(m:aA))=(i:aA)+(m:aA):=by rw[pI];omega
 have hb1:(0:aA)<=(i:aA)+(m:aA):=by omega
 have gO:i<=n:=by omega
 have htn:((i:aA)+(m:aA)).toNat=i+m:=by omega
 have Du:¬(c=i+m):=by omega
 have hb3:(i:aA)<=(n:aA)+(m:aA):=by omega
 have hb4:¬(c=i):=by omega
 go_enter l.f22,Body2.n22_ntmps ρ;go_wp2_with (simp only[Nf])
 go_region_law_o (refine step_copy rfl _ _ (ρ.t 24) (ρ.t 24) rfl _ _ (by simp[Gm,TA]) (by simp[Gm,TA]) (h1 _) ?_);go_wp2_with (at_builtin;refine wpList_copy _ rfl _ _ (ρ.t 24) (ρ.t 24) rfl _ _ rfl rfl (h2 _) ?_)
 go_ret;exact⟨rfl,rfl⟩
set_option maxHeartbeats 4000000 in
set_option maxRecDepth 100000 in
theorem grow(l:L P ρ nm sz)(w w1 w2 w3:bF)(x2 x3:bg)(b o b' n c c' i m vc:aG)(B:aD Addr)(hi:i<n)(hm:0<m)(QF:n<=c)(hroom:c<n+m)(E3:n+m<=9223372036854775807)(Hc:n+m<=c')(hc63:c'<=9223372036854775807)
  (h1:∀ty,(gY #[ρ.t 24,ρ.t 3] ty #[.slice (aj ⟨b,o,ao⟩) i c, .int .i64 ((n:aA)+(m:aA)-(i:aA))]).run P w= .ok (.slice (aj ⟨b',0,ao⟩) (n+m) c') w1)
  (h2:∀ty,(gd #[ρ.t 24,ρ.t 24] ty #[.slice (aj ⟨b',i*sz,ao⟩) (n+m-i) (c'-i), .slice B m vc]).run P w1= .ok x2 w2)
  (h3:∀ty,(gd #[ρ.t 24,ρ.t 24] ty #[.slice (aj ⟨b',(i+m)*sz,ao⟩) (n+m-(i+m)) (c'-(i+m)), .slice (aj ⟨b,o+i*sz,ao⟩) (n-i) (c-i)]).run P w2.drew= .ok x3 w3):
  Calls P (ρ.f 22) #[.slice (aj ⟨b,o,ao⟩) n c, .int .i64 i, .slice B m vc] w λe w'=>e= .returned (.slice (aj ⟨b',0,ao⟩) (n+m) c')/\w'=w3:=by
 have t3:=l.t3;have a3:=l.a3;have t4:=l.t4;have a4:=l.a4;have t24:=l.t24;have a24:=l.a24;have z9:=l.z9;have u3:=run_underlying l.t3;have u4:=run_underlying l.t4;have u24:=run_underlying l.t24;have Io:¬((m:aA)=0):=by omega
 have CG:¬((i:aA)=(n:aA)):=by omega
 have hz3:(c:aA)<(n:aA)+(m:aA):=by omega
 have mixed:=l.mixed;have hw0:ar.wrap ((n:aA)+(m:aA))=(n:aA)+(m:aA):=by rw[pI];omega
 have hw2:ar.wrap ((n:aA)+(m:aA)-(i:aA))=(n:aA)+(m:aA)-(i:aA):=by rw[pI];omega
 have hw1:ar.wrap ((i:aA)+(m:aA))=(i:aA)+(m:aA):=by rw[pI];omega
 have hb1:(0:aA)<=(i:aA)+(m:aA):=by omega
 have gO:i<=n:=by omega
 have htn:((i:aA)+(m:aA)).toNat=i+m:=by omega
 have hGi:¬(c'=i):=by omega
 have hGim:¬(c'=i+m):=by omega
 have hci:¬(c=i):=by omega
 have hic:i<=c:=by omega
 have hb3:(i:aA)<=(n:aA):=by omega
 have hb4:(i:aA)<=(n:aA)+(m:aA):=by omega
 go_enter l.f22,Body2.n22_ntmps ρ
 go_wp2_with (first
  |(at_builtin;refine sW _ rfl _ _ _ _ rfl _ _ rfl rfl _ _ (h1 _) ?_)
  |(at_builtin;refine wpList_copy _ rfl _ _ (ρ.t 24) (ρ.t 24) rfl _ _ rfl rfl (h2 _) ?_))
 go_region_law_o (refine step_copy rfl _ _ (ρ.t 24) (ρ.t 24) rfl (.slice (aj ⟨b',(i+m)*sz,ao⟩) (n+m-(i+m)) (c'-(i+m))) (.slice (aj ⟨b,o+i*sz,ao⟩) (n-i) (c-i)) (by simp[Gm,TA]) (by simp[Gm,TA]) (h3 (ρ.t 3)) ?_);go_wp2;go_ret;exact⟨rfl,rfl⟩
end Go.FG.Ins

namespace Go.FG.Ins
open Go Go.Shelf Go.RowKit Go.Lib Go.Proofs
section
variable {P:cQ}
theorem run_copyG{w:bF}{dT sT ty elem sz b o dLen dCap sLen sCap m:aG}{B:aD Addr}{cs:az bg}{cur:de bg}(hu:P.underlying dT=aj (.slice elem))(hs:∀w,(sizeOf elem).run P w= .ok sz w)
  (hf:(eU sz m (.slice B sLen sCap)).run P w= .ok cs.toArray w) (hm:PN sLen dLen=m) (hb:nr w b cur) (hl:o+cs.length<=cur.size) (h1:∀v∈cs,v.oneCell'=ak):
  (gd #[dT,sT] ty #[.slice (aj (ad b o)) dLen dCap, .slice B sLen sCap]).run P w= .ok (goInt m) (w.setRow b (dV cur o cs)):=by have JA:=mY (P:=P) w hb hl h1;have vS:min sLen dLen=m:=hm;simp[gd,run_underlying hu,oX,hs,vS,hf,JA]
theorem blk_drew{w:bF}{b:aG}{cur:de bg}(h:nr w b cur):nr w.drew b cur:=h
theorem cell_setRow_other{w:bF}{b b2 o:aG}{new:de bg}(h:b2≠b):(w.setRow b new).cell? (ad b2 o)=w.cell? (ad b2 o):=tH (setRow_other w b b2 _ h)
structure Insd (w w':bF) (p p':Pl) (i m:aG) (news:az bg):Prop where
 n:p'.n=p.n+m
 sz:p'.sz=p.sz
 nil:p'.nil=ak->p'.cap=0/\p.n=0/\m=0
 mem:p'.nil=aq->∃iM,nr w' p'.blk iM/\p'.n<=p'.cap/\p'.cap<=maxLen/\p'.off+p'.cap*p'.sz<=iM.size/\
  (∀k u,k<i*p.sz->w.cell? (ad p.blk (p.off+k))=aj u->iM[p'.off+k]? =aj u)/\(∀k,k<m*p.sz->iM[p'.off+i*p.sz+k]? =news[k]?)/\
  (∀k u,k<(p.n-i)*p.sz->w.cell? (ad p.blk (p.off+i*p.sz+k))=aj u->iM[p'.off+(i+m)*p.sz+k]? =aj u)
 blk:p'.nil=aq->(p.nil=aq/\p'.blk=p.blk)\/p'.blk=w.heap.size
 old:∀b,b<w.heap.size->(p'.nil=aq->b≠p'.blk)->w'.heap[b]? =w.heap[b]?
 size:w.heap.size<=w'.heap.size
 os:w'.os=w.os
 tape:w'.tape=w.tape
 output:w'.output=w.output
structure Pre (w:bF) (p:Pl):Prop where
 nil:p.nil=ak->p.n=0/\p.cap=0
 mem:p.nil=aq->∃vals,nr w p.blk vals/\p.n<=p.cap/\p.cap<=maxLen/\p.off+p.cap*p.sz<=vals.size
variable {ρ:Ren} {nm:String}
theorem overlaps_false{w:bF}{tS tR e:TypeId}(ht:P.underlying tS=aj (.slice e)){size:aG}(hz:∀w,(Go.sizeOf e).run P w= .ok size w){B:aD Addr}{m vc b o:aG}{vals:de bg}(hb:nr w b vals)(ho:o<vals.size)
  (hB:∀a,B=aj a->0<m->a.block≠b/\∃t k,w.shape? a.block=aj (t,k+1)) (lb cb:aG):
  (gz #[tS,tS] #[tR] #[.slice B m vc, .slice (aj (ad b o)) lb cb]).run P w= .ok (.bool aq) w:=by
 obtain⟨t,fr,hg,CA⟩:=hb;have hsb:w.shape? b=aj (t,vals.size):=by simp[Xp,hg]
 have f1:w.frozen? ⟨b,o,ao⟩=false:=by have:=CA o (by omega);simpa [Xo,hg]using this
 have f2:w.frozen? ⟨b,vals.size,ao⟩=false:=by have:=CA vals.size (cu _);simpa [Xo,hg]using this
 have hne0:vals.size≠0:=by omega
 change mJ P (α:=bg) (do
  let aj t:=(#[tS,tS]:de TypeId)[0]? |stuck "slices.overlaps: no parameter types"
  let .slice elem<-underlying t|stuck "slices.overlaps: slice type expected"
  let size<-sizeOf elem
  match B,(aj (ad b o):aD Addr)with
  |some a,aj b=>
   if m=0\/lb=0\/size=0 then pure (BZ aq)
   else if a.block !=b.block&&(<-frozen a)&&(<-frozen b)then unsupported .addressObserved
   else do
    if a.block !=b.block then do
     noView a;noView b
     if<-mayBeOne a b then return BZ ((<-choose (.extern "sameAddr.stringBytes" 2))==1)
    pure (BZ (a.block==b.block&&a.off<b.off+lb*size&&b.off<a.off+m*size))
  |_,_=>pure (BZ aq)) w=_
 cases B with
 |none=>simp[run_underlying ht,hz]
 |some a=>
  by_cases h0:m=0\/lb=0\/size=0
  ·simp[run_underlying ht,hz,h0]
  ·have hm:0<m:=by omega
   obtain⟨h_,ta,k,hsa⟩:=hB a rfl hm;have Jy:(a.block !=b)=true:=by simpa using h_
   have hnb':(a.block==b)=false:=by simpa using h_
   obtain⟨n,hn⟩:∃n,vals.size=n+1:=⟨vals.size-1,by omega⟩
   rw[hn]at hsb f2;simp[run_underlying ht,hz,h0,Jy,hnb',h_,frozen,noView,viewAt,mayBeOne,stringish,shape,mJ,hsa,hsb,f1,f2]
theorem first_of{w:bF}{sz m b o len cap:aG}{cs:az bg}(hl:cs.length=m*sz)(h:∀j u,cs[j]? =aj u->w.cell? (ad b (o+j))=aj u):(eU sz m (.slice (aj (ad b o)) len cap)).run P w= .ok cs.toArray w:=
 run_firstCells_some w sz m _ _ _ cs hl (λj v hj=>by rw[Addr.nA];exact h j v hj)
theorem insert_run{sz:aG}(l:L P ρ nm sz){inf:IB}{z:bg}(hi:P.info? (ρ.t 9)=aj inf)(hz:inf.zero=aj z)(Og:z.cells.size=sz)(fT:inf.size=sz)(kH:0<sz)
  (Nf:∀args w,(callFunc (ρ.f 29) args).run P w=((gz #[ρ.t 24,ρ.t 24] #[ρ.t 4] args).run P w).andThen λv w'=> .ok (.value v) w')
  {w:bF} {p:Pl} (hp:p.sz=sz) (pre:Pre w p) {i m vc:aG} {B:aD Addr} {news:az bg} (gO:i<=p.n) (hv:news.length=m*sz) (hB:m=0\/∃b2 o2,B=aj (ad b2 o2)/\(p.nil=aq->b2≠p.blk)/\∀j u,news[j]? =aj u->w.cell? (ad b2 (o2+j))=aj u)
  (vT:∀v∈news,v.oneCell'=ak) (h1:(p.n+m)*inf.bytes<=140737488355328) (h2:p.n+m<=9223372036854775807) (hone2:∀vals k v,p.nil=aq->nr w p.blk vals->k<p.n*sz->vals[p.off+k]? =aj v->v.oneCell'=ak):
  ∃p' w',Insd w w' p p' i m news/\Calls P (ρ.f 22) #[lj p, .int .i64 i, .slice B m vc] w (λe w2=>e= .returned (lj p')/\w2=w'):=by
 subst hp;have X_:p.n<=9223372036854775807:=by omega
 rcases B0 m with rfl|hm
 ·refine⟨p,w,⟨rfl,rfl,λh=>⟨(pre.nil h).2,(pre.nil h).1,rfl⟩,λh=> ?_,λh=> .inl ⟨h,rfl⟩,λ_ _ _=>rfl,cu _,rfl,rfl,rfl⟩, ?_⟩
  ·obtain⟨vals,hb,q1,q2,q3⟩:=pre.mem h;refine⟨vals,hb,q1,q2,q3,λk u _ hu=>by rw[<-hb.cell];exact hu,λk hk=>by simp at hk,λk u _ hu=> ?_⟩
   rw[<-hb.cell,wT];exact hu
  ·cases hq:p.nil with
   |true=>have h0:=(pre.nil hq).1;rw[mV hq];have:=zero l w ao B 0 0 i vc (by omega) (by omega) (.inl ⟨rfl,rfl⟩);exact this
   |false=>rw[eL hq];exact zero l w _ B p.n p.cap i vc gO X_ (.inr ⟨_,_,rfl⟩)
 ·obtain⟨b2,o2,rfl,Du,hcell⟩:=hB.resolve_left (by omega);by_cases hend:i=p.n
  ·subst hend;have happ:App P w (ρ.t 24) (.slice (aj (ad b2 o2)) m vc) z.cells p.sz m news:=by refine⟨.inl ⟨.inl ⟨_,l.t24⟩,by simp[oX],first_of hv hcell,first_of (w:=w.drew) hv hcell⟩,hv,vT⟩
   obtain⟨p',w',hr,hA⟩:=sN (P:=P) (w:=w) (t:=ρ.t 24) (u:=ρ.t 24) (ty:=0) (p:=p) l.t24 hi hz Og fT (λh=>(pre.nil h).1) pre.mem happ h1 h2;refine⟨p',w',⟨hA.n,hA.sz,hA.nil,λh=> ?_,hA.blk,hA.old,hA.size,hA.os,hA.tape,hA.output⟩, ?_⟩
   ·obtain⟨iM,q1,q2,q3,q4,q5,q6⟩:=hA.mem h;exact⟨iM,q1,q2,q3,q4,q5,q6,λk u hk _=>by simp at hk⟩
   ·have CC:∀ty,(gY #[ρ.t 24,ρ.t 24] ty #[lj p, .slice (aj (ad b2 o2)) m vc]).run P w= .ok (lj p') w':=λty=>hr;cases hq:p.nil with
    |true=>have h0:=(pre.nil hq).1;rw[mV hq]at CC⊢;have:=atEnd l w w' ao (aj (ad b2 o2)) 0 0 m vc (lj p') hm (by omega) (.inl ⟨rfl,rfl⟩) CC;rw[h0];exact this
    |false=>rw[eL hq]at CC⊢;exact atEnd l w w' _ (aj (ad b2 o2)) p.n p.cap m vc (lj p') hm X_ (.inr ⟨_,_,rfl⟩) CC
  ·have jD:i<p.n:=by omega
   have hq:p.nil=false:=by
    cases h:p.nil with
    |false=>rfl
    |true=>have:=(pre.nil h).1;omega
   obtain⟨vals,hb,QF,Qy,nD⟩:=pre.mem hq;have h_:=Du hq;rw[eL hq];have m1:i*p.sz<=p.n*p.sz:=b7 _ gO;have m2:p.n*p.sz<=p.cap*p.sz:=b7 _ QF;have e1:(i+m)*p.sz=i*p.sz+m*p.sz:=da _ _ _;have e2:(p.n-i)*p.sz=p.n*p.sz-i*p.sz:=ub _ _ _;have m0:i*p.sz+p.sz<=p.n*p.sz:=by have:=b7 p.sz (show i+1<=p.n by omega);rwa[da,Nat.one_mul]at this
   have hp0:p.sz<=m*p.sz:=Nat.le_mul_of_pos_left _ hm;have n1:PN (p.n+m-i) (p.n+m-(i+m))=p.n-i:=by simp only[KJ];split<;>omega
   have n2:PN m (p.n+m-i)=m:=by simp only[KJ];split<;>omega
   have n3:PN (p.n-i) (p.n+m-(i+m))=p.n-i:=by simp only[KJ];split<;>omega
   let tail:=(vals.toList.drop (p.off+i*p.sz)).take ((p.n-i)*p.sz);have htl:tail.length=(p.n-i)*p.sz:=by simp only[tail,eg,hZ,dK];omega
   have htg:∀k,k<(p.n-i)*p.sz->tail[k]? =vals[p.off+i*p.sz+k]? :=λk hk=>by simp only[tail,dR,bC hk,dJ,cO]
   have ht1:∀v∈tail,v.oneCell'=true:=λv hv=>by
    obtain⟨k,hk⟩:=bZ hv;have Im:k<(p.n-i)*p.sz:=by rw[<-htl];exact(aU.1 hk).1
    rw[htg k Im]at hk;exact hone2 vals (i*p.sz+k) v hq hb (by omega) (by rw[<-lC];exact hk)
   by_cases hroom:p.n+m<=p.cap
   ·-- in place
    have m3:(p.n+m)*p.sz<=p.cap*p.sz:=b7 _ hroom;rw[da]at m3;have LA:p.off+(i+m)*p.sz+tail.length<=vals.size:=by rw[htl];omega
    have hb1:nr (w.drew.setRow p.blk (dV vals (p.off+(i+m)*p.sz) tail)) p.blk (dV vals (p.off+(i+m)*p.sz) tail):=nr.setRow (w:=w.drew) (blk_drew hb) (eO LA);have Jx:p.off+i*p.sz+news.length<=(dV vals (p.off+(i+m)*p.sz) tail).size:=by rw[eO LA,hv];omega
    have c1:∀ty,(gd #[ρ.t 24,ρ.t 24] ty #[.slice (aj ⟨p.blk,p.off+(i+m)*p.sz,ao⟩) (p.n+m-(i+m)) (p.cap-(i+m)), .slice (aj ⟨p.blk,p.off+i*p.sz,ao⟩) (p.n+m-i) (p.cap-i)]).run P w.drew= .ok (goInt ((p.n-i:aG):aA)) (w.drew.setRow p.blk (dV vals (p.off+(i+m)*p.sz) tail)):=λty=>
     run_copyG (P:=P) (w:=w.drew) l.t24 l.z9 (first_of (w:=w.drew) htl (λj u hj=>by
      have jC:j<(p.n-i)*p.sz:=by rw[<-htl];exact(aU.1 hj).1
      rw[htg j jC]at hj;exact(hb.cell _).trans hj)) n1 (blk_drew hb) LA ht1
    have c2:∀ty,(gd #[ρ.t 24,ρ.t 24] ty #[.slice (aj ⟨p.blk,p.off+i*p.sz,ao⟩) (p.n+m-i) (p.cap-i), .slice (aj (ad b2 o2)) m vc]).run P (w.drew.setRow p.blk (dV vals (p.off+(i+m)*p.sz) tail))= .ok (goInt m) ((w.drew.setRow p.blk (dV vals (p.off+(i+m)*p.sz) tail)).setRow p.blk (dV (dV vals (p.off+(i+m)*p.sz) tail) (p.off+i*p.sz) news)):=λty=>
     run_copyG (P:=P) l.t24 l.z9 (first_of hv (λj u hj=>by rw[cell_setRow_other h_];exact hcell j u hj)) n2 hb1 Jx vT
    have hcal:=shift l w _ _ _ _ p.blk p.off p.n p.cap i m vc (aj (ad b2 o2)) jD hm hroom Qy (λlb cb=>by
     rw[Nf,overlaps_false (P:=P) (w:=w) l.t24 l.z9 hb (o:=p.off+(i+m)*p.sz) (by omega) (λa ha _=>by
      cases ha;have h0:0<news.length:=by rw[hv];omega
      have:=hcell 0 _ (eD h0);refine⟨h_, ?_⟩
      unfold World.cell? at this;unfold Xp;split at this
      ·rename_i cc tt ff hg;rw[hg];simp at this;obtain⟨hlt2,_⟩:=dN.1 this;exact⟨tt,cc.size-1,by simp;omega⟩
      ·cases this) lb cb]
     rfl) c1 c2
    refine⟨⟨aq,p.blk,p.off,p.cap,p.n+m,p.sz⟩,(w.drew.setRow p.blk (dV vals (p.off+(i+m)*p.sz) tail)).setRow p.blk (dV (dV vals (p.off+(i+m)*p.sz) tail) (p.off+i*p.sz) news),⟨rfl,rfl,λh=>(by cases h),λ_=> ?_,λ_=> .inl ⟨hq,rfl⟩,λb Oa Jy=> ?_,by simp[kV],rfl,rfl,rfl⟩,by rw[eL rfl];exact hcal⟩
    ·refine⟨_,hb1.setRow (eO Jx),hroom,Qy,by rw[eO Jx,eO LA];exact nD,λk u hk hu=> ?_,λk hk=> ?_,λk u hk hu=> ?_⟩
     ·show(dV (dV vals (p.off+(i+m)*p.sz) tail) (p.off+i*p.sz) news)[p.off+k]? =aj u;rw[fY Jx,bL (by omega),fY LA,bL (by omega),<-hb.cell];exact hu
     ·show(dV (dV vals (p.off+(i+m)*p.sz) tail) (p.off+i*p.sz) news)[p.off+i*p.sz+k]? =news[k]?;rw[fY Jx,bC (by rw[hv];omega)];congr 1;omega
     ·show(dV (dV vals (p.off+(i+m)*p.sz) tail) (p.off+i*p.sz) news)[p.off+(i+m)*p.sz+k]? =aj u;rw[fY Jx,bL (by rw[hv];omega),fY LA,bC (by rw[htl];omega),show p.off+(i+m)*p.sz+k-(p.off+(i+m)*p.sz)=k by omega,htg k hk,<-hb.cell];exact hu
    ·have hbne:b≠p.blk:=Jy rfl;rw[setRow_other _ _ b _ hbne,setRow_other _ _ b _ hbne];rfl
   ·-- a new row
    have hgo:p.cap<p.n+m:=by omega
    let oS:=(vals.toList.drop p.off).take (i*p.sz);have Ga:oS.length=i*p.sz:=by simp only[oS,eg,hZ,dK];omega
    have hog:∀k,k<i*p.sz->oS[k]? =vals[p.off+k]? :=λk hk=>by simp only[oS,dR,bC hk,dJ,cO]
    have X5:i+(p.n+m-i)=p.n+m:=by omega
    have QC:(p.n:aA)+(m:aA)-(i:aA)=((p.n+m-i:aG):aA):=by omega
    have hold:(eU inf.size i (.slice (aj (ad p.blk p.off)) i p.cap)).run P w.drew= .ok oS.toArray w.drew:=by
     rw[fT];exact first_of (w:=w.drew) Ga (λj u hj=>by
      have jC:j<i*p.sz:=by rw[<-Ga];exact(aU.1 hj).1
      rw[hog j jC]at hj;exact(hb.cell _).trans hj)
    have hG:=grownCap_ge w (p.n+m) p.cap (ρ.t 9);have hG2:=grownCap_le_maxLen w (p.n+m) p.cap (ρ.t 9) (by unfold maxLen;omega);generalize hGd:grownCap w (p.n+m) p.cap (ρ.t 9)=G at hG hG2;obtain⟨arr,harr⟩:∃arr:de bg,arr=oS.toArray++fc z.cells (p.n+m-i)++fc z.cells (G-(p.n+m)):=⟨_,rfl⟩
    have a1:∀ty,(gY #[ρ.t 24,ρ.t 3] ty #[.slice (aj ⟨p.blk,p.off,ao⟩) i p.cap, .int .i64 ((p.n:aA)+(m:aA)-(i:aA))]).run P w= .ok (.slice (aj ⟨w.heap.size,0,ao⟩) (p.n+m) G) (w.drew.alloc (.cells arr (ρ.t 9))):=λty=>by have hmb:(p.n+m-i)*inf.bytes<=(p.n+m)*inf.bytes:=b7 _ (by omega);have h:=Lib.run_append_grow_zeros w (ρ.t 24) (ρ.t 3) ty (ρ.t 9) inf z .i64 .i64 l.t24 l.t3 hi hz (aj (ad p.blk p.off)) i p.cap oS hold (p.n+m-i) (by omega) (by omega) (by omega) (by omega) (by omega) (by rw[X5];exact growslice_fits hgo h1);rw[X5,hGd,<-harr]at h;rw[QC];exact h
    have sarr:arr.size=i*p.sz+(p.n+m-i)*p.sz+(G-(p.n+m))*p.sz:=by rw[harr];simp only[Array.size_append,TH,size_zeroCells,Og,Ga]
    have e3:(p.n+m-i)*p.sz=p.n*p.sz+m*p.sz-i*p.sz:=by rw[ub,da]
    have e4:G*p.sz=(p.n*p.sz+m*p.sz)+(G-(p.n+m))*p.sz:=by rw[<-da,<-da];congr 1;omega
    have hbw:p.blk<w.heap.size:=hb.lt;have hb0:nr (w.drew.alloc (.cells arr (ρ.t 9))) w.heap.size arr:=nr.alloc w.drew arr _;have LA:i*p.sz+news.length<=arr.size:=by rw[sarr,hv];omega
    have hb1:=hb0.setRow (new:=dV arr (i*p.sz) news) (eO LA);have Jx:(i+m)*p.sz+tail.length<=(dV arr (i*p.sz) news).size:=by rw[eO LA,sarr,htl];omega
    have hb2w:b2<w.heap.size:=by
     have h0:0<news.length:=by rw[hv];omega
     exact block_lt_of_cell (hcell 0 _ (eD h0))
    have oldc:∀b o,b<w.heap.size->(w.drew.alloc (.cells arr (ρ.t 9))).cell? (ad b o)=w.cell? (ad b o):=λb o hbl=>tH (heap_alloc_old w.drew _ hbl);have c1:∀ty,(gd #[ρ.t 24,ρ.t 24] ty #[.slice (aj ⟨w.heap.size,i*p.sz,ao⟩) (p.n+m-i) (G-i), .slice (aj (ad b2 o2)) m vc]).run P (w.drew.alloc (.cells arr (ρ.t 9)))= .ok (goInt m) ((w.drew.alloc (.cells arr (ρ.t 9))).setRow w.heap.size (dV arr (i*p.sz) news)):=λty=>
     run_copyG (P:=P) l.t24 l.z9 (first_of hv (λj u hj=>by rw[oldc _ _ hb2w];exact hcell j u hj)) n2 hb0 LA vT
    have c2:∀ty,(gd #[ρ.t 24,ρ.t 24] ty #[.slice (aj ⟨w.heap.size,(i+m)*p.sz,ao⟩) (p.n+m-(i+m)) (G-(i+m)), .slice (aj ⟨p.blk,p.off+i*p.sz,ao⟩) (p.n-i) (p.cap-i)]).run P ((w.drew.alloc (.cells arr (ρ.t 9))).setRow w.heap.size (dV arr (i*p.sz) news)).drew= .ok (goInt ((p.n-i:aG):aA)) (((w.drew.alloc (.cells arr (ρ.t 9))).setRow w.heap.size (dV arr (i*p.sz) news)).drew.setRow w.heap.size (dV (dV arr (i*p.sz) news) ((i+m)*p.sz) tail)):=λty=>
     run_copyG (P:=P) (w:=((w.drew.alloc (.cells arr (ρ.t 9))).setRow w.heap.size (dV arr (i*p.sz) news)).drew) l.t24 l.z9 (first_of htl (λj u hj=>by
      have jC:j<(p.n-i)*p.sz:=by rw[<-htl];exact(aU.1 hj).1
      rw[htg j jC]at hj;show((w.drew.alloc (.cells arr (ρ.t 9))).setRow w.heap.size (dV arr (i*p.sz) news)).cell? (ad p.blk (p.off+i*p.sz+j))=aj u;rw[cell_setRow_other (by omega),oldc _ _ hbw];exact(hb.cell _).trans hj)) n3 (blk_drew hb1) Jx ht1
    have hcal:=grow l w _ _ _ _ _ p.blk p.off w.heap.size p.n p.cap G i m vc (aj (ad b2 o2)) jD hm QF hgo h2 hG hG2 a1 c1 c2;refine⟨⟨aq,w.heap.size,0,G,p.n+m,p.sz⟩,((w.drew.alloc (.cells arr (ρ.t 9))).setRow w.heap.size (dV arr (i*p.sz) news)).drew.setRow w.heap.size (dV (dV arr (i*p.sz) news) ((i+m)*p.sz) tail),⟨rfl,rfl,λh=>(by cases h),λ_=> ?_,λ_=> .inr rfl,λb Oa Jy=> ?_,by simp[kV],rfl,rfl,rfl⟩,by rw[eL rfl];exact hcal⟩
    ·refine⟨_,nr.setRow (w:=((w.drew.alloc (.cells arr (ρ.t 9))).setRow w.heap.size (dV arr (i*p.sz) news)).drew) (blk_drew hb1) (eO Jx),hG,hG2,by rw[eO Jx,eO LA,sarr];show 0+G*p.sz<=_;omega,λk u hk hu=> ?_,λk hk=> ?_,λk u hk hu=> ?_⟩
     ·show(dV (dV arr (i*p.sz) news) ((i+m)*p.sz) tail)[0+k]? =aj u;rw[bT,fY Jx,bL (by omega),fY LA,bL (by omega),harr,Mx,CQ (by simp[Ga];omega),gQ,hog k hk,<-hb.cell];exact hu
     ·show(dV (dV arr (i*p.sz) news) ((i+m)*p.sz) tail)[0+i*p.sz+k]? =news[k]?;rw[bT,fY Jx,bL (by omega),fY LA,bC (by rw[hv];omega)];congr 1;omega
     ·show(dV (dV arr (i*p.sz) news) ((i+m)*p.sz) tail)[0+(i+m)*p.sz+k]? =aj u;rw[bT,fY Jx,bC (by rw[htl];omega),show(i+m)*p.sz+k-(i+m)*p.sz=k by omega,htg k hk,<-hb.cell];exact hu
    ·have hbne:b≠w.heap.size:=by omega
     rw[setRow_other _ _ b _ hbne];show((w.drew.alloc (.cells arr (ρ.t 9))).setRow w.heap.size (dV arr (i*p.sz) news)).heap[b]? =_;rw[setRow_other _ _ b _ hbne,heap_alloc_old w.drew _ Oa];rfl
end
end Go.FG.Ins

namespace Go.FG.Ins
open Go Go.Shelf Go.RowKit Go.Lib Go.Proofs
abbrev ofTab(T:Tab):fB:={toTab:=T,call:=λ_ _=>ao,om:=λ_ _=> .nat,mode:=λ_ _=>aq,keep:=λ_=>[],tk:=λ_=>false}
theorem holdsK{T:Tab}{w:bF}{K:aG->Prop}{v:bg}{e:aG}{ys:aX}(h:cY T w K v (.l e ys))(h0:ys≠[]){b o n c:aG}(hv:v= .slice (aj (ad b o)) n c):K b:=by
 cases h with
 |nl=>exact cq rfl h0
 |l e xs b' o' c' Td U ht hc hm hK hs hcell gO=>cases hv;exact hK
def zW(e bytes:aG):az eR->aD (aY×dM)
 |[.v aq [.ow e1 ak xs], .v aq [.i .i64 i], .v aq [.sh e2 ys]]=>bif bA e1 e&&bA e2 e then
  aj (decide (0<=i)&&decide (i<=(xs.length:aA))&&cJ (xs.length+ys.length) bytes,⟨[.v aq [.ow e ak (Pu.xW xs i.toNat ys)]],[]⟩)else ao
 |_=>ao
theorem insR_get{xs ys:aX}{i:aG}(h:i<=xs.length)(k:aG)(y:az CV)(hk:(Pu.xW xs i ys)[k]? =aj y):
  (k<i/\xs[k]? =aj y)\/(i<=k/\k<i+ys.length/\ys[k-i]? =aj y)\/(i+ys.length<=k/\xs[k-ys.length]? =aj y):=by
 unfold Pu.xW at hk;have hl:(xs.take i).length=i:=by simp;omega
 by_cases h1:k<i
 ·rw[cj,dg (by omega),dR,bC h1]at hk;exact .inl ⟨h1,hk⟩
 ·by_cases h2:k<i+ys.length
  ·rw[cj,cZ (by omega),hl,dg (by omega)]at hk;exact .inr (.inl ⟨by omega,h2,hk⟩)
  ·rw[cZ (by simp;omega),dJ]at hk;refine .inr (.inr ⟨by omega, ?_⟩);rw[<-hk];congr 1;simp;omega
theorem oh{P:cQ}{t:aG}{d:TypeDesc}(h:P.underlying t=aj d)(hb:qX d=ak)(w:bF):(Go.isAgg t).run P w= .ok aq w:=by simp only[Go.isAgg,cg,run_underlying h,bB];cases d<;>simp_all [qX]
theorem L0{P:cQ}{T:Tab}(hE:dZ P T){t:aG}{ti:TI}(h:T.ty t=aj ti)(w:bF):(sizeOf t).run P w= .ok ti.ks.length w:=by obtain⟨inf,hi,hs,_⟩:=hE.info t ti h;simp only[sizeOf,typeInfo,program,cg,mJ,bB,hi,hs,cL]
section
variable {P:cQ} {ρ:Ren} {nm:String} {T:Tab}
theorem Dx{e:aG}{te:TI}(he:T.ty e=aj te)(hρ:ρ.t 9=e)(hp:plain te.ks=ak)(hE:dZ P T)(l:L P ρ nm te.ks.length)
  (Nf:∀args w,(callFunc (ρ.f 29) args).run P w=((gz #[ρ.t 24,ρ.t 24] #[ρ.t 4] args).run P w).andThen λv w'=> .ok (.value v) w')
  (hfn:∃fn,P.funcs[ρ.f 22]? =aj fn/\fn.body.isSome=ak/\(fn.name== "runtime.NumGoroutine")=aq):la P T (ρ.f 22) (zW e te.bytes):=by
 have uV:JO te.ks=true:=bn.2 λk hk=>by have:=bn.1 hp k hk;cases k<;>simp_all
 obtain⟨inf,hi,fT,hby,kH,hzz⟩:=hE.info e te he;obtain⟨z,hz,hzc,_⟩:=hzz uV;have Og:z.cells.size=te.ks.length:=by rw[hzc];simp
 intro args r h w c1 vs b8 hs hv;refine⟨hfn, ?_⟩
 unfold zW at h;split at h
 ·rename_i e1 xs i e2 ys;cases hb:(bA e1 e&&bA e2 e)with
  |false=>rw[hb]at h;cases h
  |true=>
   rw[hb,ay]at h;simp only[aK]at hb;have:=aW hb.1;subst this;have:=aW hb.2;subst this;have h:=aF h;obtain⟨hc,rfl⟩:=bU h;simp only[aK,bf,cJ]at hc;obtain⟨⟨c0,c2⟩,c3,c4⟩:=hc;obtain⟨v0,g0,s0⟩:=hv 0 _ rfl;obtain⟨v1,g1,s1⟩:=hv 1 _ rfl;obtain⟨v2,g2,s2⟩:=hv 2 _ rfl;have QN:vs= #[v0,v1,v2]:=by
    have h3:vs.size=3:=hs;apply Array.ext_getElem?;intro k;match k with
    |0=>rw[g0];rfl
    |1=>rw[g1];rfl
    |2=>rw[g2];rfl
    |k+3=>rw[FR (by omega),FR (by simp)]
   subst QN;have s0:v0=lj (c1.P (dL 0 0)):=s0;have s1:v1= .int .i64 i:=s1;have s2:cY T w c1.K v2 (.l e2 ys):=s2;subst s0;subst s1;have mq:inj [.v aq [.ow e2 ak xs], .v aq [.i .i64 i], .v aq [.sh e2 ys]] (cW (dL 0 0))= .o (.row e2 ak xs):=rfl;obtain⟨⟨ti,ht,E7,mc⟩,fS,Hg⟩:=b8.obj _ _ mq;have hti:ti=te:=aF (ht.symm.trans he);subst hti;generalize hpd:c1.P (dL 0 0)=p at fS E7;have pre:Pre w p:=⟨λh=>by have:=fS.nil h;exact⟨by rw[fS.n,this.1];rfl,this.2⟩,λh=>by obtain⟨vals,q1,q2,q3,q4,_⟩:=fS.mem h;exact⟨vals,q1,q2,q3,q4⟩⟩
   obtain⟨n,rfl⟩:∃n:aG,i=(n:aA):=⟨i.toNat,by omega⟩
   have hnx:n<=xs.length:=by omega
   have CE:=yz (E:=ofTab T) he s2;have Hq:∀y∈ys,y.length=ti.ks.length:=λy hy=>by rw[<-CE.2 y hy];simp
   have U_:∀y∈xs,y.length=ti.ks.length:=λy hy=>by rw[<-mc y hy];simp
   obtain⟨B,vc,news,LC,n1,n2,n3⟩:=CE.1.list Hq;have cellOf:∀k,k<ys.length*ti.ks.length->∃y x,ys[k/ti.ks.length]? =aj y/\y[k%ti.ks.length]? =aj x/\k/ti.ks.length*ti.ks.length+k%ti.ks.length=k:=by
    intro k hk;have h1:k/ti.ks.length<ys.length:=by rw[wF kH];exact hk
    have h2:k%ti.ks.length<ys[k/ti.ks.length].length:=by rw[Hq _ (bD h1)];exact B3 _ kH
    refine⟨_,_,eD h1,eD h2, ?_⟩
    have:=Ig k ti.ks.length;rw[CY]at this;exact this
   have vT:∀v∈news,v.oneCell'=true:=λv hv=>by
    obtain⟨k,hk⟩:=bZ hv;have Im:k<ys.length*ti.ks.length:=by rw[<-n1];exact(aU.1 hk).1
    obtain⟨y,x,q1,q2,q3⟩:=cellOf k Im;obtain⟨u,hu,hr⟩:=n3 _ _ _ _ q1 q2;rw[q3,hk]at hu;cases hu;exact cY.one (E:=ofTab T) hr
   have hKne:∀b,c1.K b->p.nil=aq->b≠p.blk:=λb hk hn he=>by exact b8.kk _ _ p.blk mq (.inl ⟨by rw[hpd];exact hn,by rw[hpd]⟩) (he▸hk)
   have hB:ys.length=0\/∃b2 o2,B=aj (ad b2 o2)/\(p.nil=aq->b2≠p.blk)/\∀j u,news[j]? =aj u->w.cell? (ad b2 (o2+j))=aj u:=by
    rcases n2 with rfl|⟨b2,o2,rfl,hc2⟩
    ·exact .inl rfl
    ·by_cases h0:ys=[]
     ·subst h0;exact .inl rfl
     ·refine .inr ⟨b2,o2,rfl,λhn=> ?_,hc2⟩;exact hKne _ (holdsK s2 h0 LC) hn
   have xrel:∀(k:aG) (y:az CV) (j:aG) (x:CV),p.nil=aq->xs[k]? =aj y->y[j]? =aj x->∃u,w.cell? (ad p.blk (p.off+k*p.sz+j))=aj u/\Sc u x:=by intro k y j x hn hk hj;obtain⟨vals,q1,q2,q3,q4,q5⟩:=fS.mem hn;obtain⟨u,hu,hr⟩:=q5 k y j x hk hj;rw[bC rfl]at hr;exact⟨u,by rw[q1.cell];exact hu,tC (E:=ofTab T) hr (gV hp (mc y (aQ hk)) hj)⟩
   have hone2:∀vals k v,p.nil=aq->nr w p.blk vals->k<p.n*p.sz->vals[p.off+k]? =aj v->v.oneCell'=true:=by
    intro vals k v hn hbv hk hkv;rw[E7]at hk;have h1:k/ti.ks.length<xs.length:=by rw[wF kH,<-fS.n];exact hk
    have h2:k%ti.ks.length<xs[k/ti.ks.length].length:=by rw[U_ _ (bD h1)];exact B3 _ kH
    obtain⟨u,hu,hsc⟩:=xrel _ _ _ _ hn (eD h1) (eD h2);have:=Ig k ti.ks.length;rw[CY]at this;rw[E7,show p.off+k/ti.ks.length*ti.ks.length+k%ti.ks.length=p.off+k by omega,hbv.cell,hkv]at hu;cases hu;rw[hsc.1];exact H2
   rw[LC];obtain⟨p',w',hI,hcal⟩:=insert_run (P:=P) (sz:=ti.ks.length) l (by rw[hρ];exact hi) hz Og fT kH Nf E7 pre (i:=n) (m:=ys.length) (vc:=vc) (by rw[fS.n];exact hnx) n1 hB vT (by rw[fS.n,hby];exact c3) (by rw[fS.n];exact c4) (λvals k v h1 h2 h3 h4=>hone2 vals k v h1 h2 (by rw[E7];exact h3) h4);refine hcal.mono ?_;intro e1 w2 hh;rw[hh.1,hh.2];show PO T _ _ c1 w (lj p') w';rw[dx];generalize hzd:Pu.xW xs n ys=zs;have JD:zs.length=xs.length+ys.length:=by rw[<-hzd];unfold Pu.xW;simp;omega
   have hzg:∀(k:aG) (y:az CV),zs[k]? =aj y->(k<n/\xs[k]? =aj y)\/(n<=k/\k<n+ys.length/\ys[k-n]? =aj y)\/(n+ys.length<=k/\xs[k-ys.length]? =aj y):=λk y hk=>insR_get hnx k y (by rw[hzd];exact hk);have hzsh:∀y∈zs,y.map CV.kd=ti.ks:=λy hy=>by
    obtain⟨k,hk⟩:=bZ hy;rcases hzg k y hk with ⟨_,h⟩|⟨_,_,h⟩|⟨_,h⟩
    ·exact mc y (aQ h)
    ·exact CE.2 y (aQ h)
    ·exact mc y (aQ h)
   have hzp:∀(k:aG) (y:az CV) (j:aG) (x:CV),zs[k]? =aj y->y[j]? =aj x->tc x=false:=λk y j x hk hj=>gV hp (hzsh y (aQ hk)) hj;let c3:eK:=⟨λm=>if m=dL 500 0 then p' else c1.P m,λm=>if m=dL 500 0 then(λ_ _=>⟨ak,0,0,0,0,0⟩)else c1.G m,c1.K⟩
   have hP3:c3.P (dL 500 0)=p':=by simp[c3]
   have hG3:c3.G (dL 500 0)=λ_ _=>⟨ak,0,0,0,0,0⟩:=by simp[c3]
   have hO:∀m o,nO [.v aq [.ow e2 ak xs], .v aq [.i .i64 n], .v aq [.sh e2 ys]] ⟨[.v aq [.ow e2 ak zs]],[]⟩ (cW m)= .o o->m=dL 500 0/\o= .row e2 ak zs:=by intro m o ho;have hm:=ni ho (by simp);simp[J4,JU,uh,sB,Dw,Bu,sJ]at hm;exact⟨jB hm.1,hm.2⟩
   have hX:nO [.v aq [.ow e2 ak xs], .v aq [.i .i64 n], .v aq [.sh e2 ys]] ⟨[.v aq [.ow e2 ak zs]],[]⟩ (cW (dL 500 0))= .o (.row e2 ak zs):=rfl;have Bn:∀i j,¬fV zs i j:=by rintro i j ⟨y,x,h1,h2,h3⟩;rw[hzp i y j x h1 h2]at h3;cases h3
   have noInnX:∀i j,¬fV xs i j:=by rintro i j ⟨y,x,h1,h2,h3⟩;rw[gV hp (mc y (aQ h1)) h2]at h3;cases h3
   have He:∀b,fa c3 (dL 500 0) (.row e2 ak zs) b->p'.nil=aq/\b=p'.blk:=by
    rintro b (⟨h1,h2⟩|⟨_,i,j,h,_⟩)
    ·rw[hP3]at h1 h2;exact⟨h1,h2⟩
    ·exact cq h (Bn i j)
   have hOwn1:p.nil=aq->vp (inj [.v aq [.ow e2 ak xs], .v aq [.i .i64 n], .v aq [.sh e2 ys]]) c1 p.blk:=λhn=>⟨_,_,mq, .inl ⟨by rw[hpd];exact hn,by rw[hpd]⟩⟩
   have xV:p'.nil=aq->p'.blk=w.heap.size\/vp (inj [.v aq [.ow e2 ak xs], .v aq [.i .i64 n], .v aq [.sh e2 ys]]) c1 p'.blk:=λhn=>by
    rcases hI.blk hn with ⟨q1,q2⟩|q
    ·rw[q2];exact .inr (hOwn1 q1)
    ·exact .inl q
   have hKp:∀b,c1.K b->¬(p'.nil=aq/\b=p'.blk):=by
    rintro b hk ⟨hn,rfl⟩;rcases xV hn with h|h
    ·have:=b8.lt _ hk;omega
    ·exact b8.HH h hk
   refine⟨c3,⟨?_, ?_, ?_, ?_, ?_⟩,⟨hI.os,hI.tape,hI.output,hI.size,λb hb=>hb, ?_, ?_,λb hb=> .inl hb⟩, ?_, ?_⟩
   ·intro m o ho;obtain⟨rfl,rfl⟩:=hO m o ho;refine⟨⟨ti,he,by rw[hP3,hI.sz,E7],hzsh⟩, ?_,λ_=>⟨λi j h=>cq h (Bn i j),λi j i' j' h=>cq h (Bn i j)⟩⟩
    rw[hP3];refine⟨by rw[hI.n,fS.n,JD],λhn=> ?_,λhn=> ?_⟩
    ·obtain⟨q1,q2,q3⟩:=hI.nil hn;rw[fS.n]at q2;exact⟨fQ (by omega),q1⟩
    ·obtain⟨iM,q1,q2,q3,q4,q5,q6,q7⟩:=hI.mem hn;refine⟨iM,q1,q2,q3,q4,λk y j x hk hj=> ?_⟩
     simp only[if_true];have hnl:=hzp k y j x hk hj;have jC:j<ti.ks.length:=by rw[<-hzsh y (aQ hk),bP];exact(aU.1 hj).1
     have fin:∀u:bg,Sc u x->iM[p'.off+k*p'.sz+j]? =aj u->∃u:bg,iM[p'.off+k*p'.sz+j]? =aj u/\XC T w' (c3.G (dL 500 0)) k j u x:=λu h1 h2=>⟨u,h2,tz (E:=ofTab T) hnl h1⟩
     have pnil:∀(k:aG) (y:az CV),xs[k]? =aj y->p.nil=false:=λk y h=>by
      cases hq:p.nil with
      |false=>rfl
      |true=>have hx:=(fS.nil hq).1;subst hx;cases h
     rw[hI.sz]at fin⊢;rcases hzg k y hk with ⟨r1,r2⟩|⟨r1,r2,r3⟩|⟨r1,r2⟩
     ·obtain⟨u,hu,hsc⟩:=xrel k y j x (pnil k y r2) r2 hj;have hb1:k*p.sz+j<n*p.sz:=by have:=b7 p.sz (show k+1<=n from r1);rw[da]at this;rw[E7]at this⊢;omega
      refine fin u hsc ?_;rw[lC];exact q5 _ u hb1 (by rw[<-lC];exact hu)
     ·obtain⟨u,hu,hr⟩:=n3 (k-n) y j x r3 hj;have hb1:(k-n)*p.sz+j<ys.length*p.sz:=by have:=b7 p.sz (show k-n+1<=ys.length by omega);rw[da]at this;rw[E7]at this⊢;omega
      refine fin u (oP (E:=ofTab T) hr hnl) ?_;have:=q6 _ hb1;rw[E7]at this⊢;rw[hu,<-lC,ub]at this;have hmn:n*ti.ks.length<=k*ti.ks.length:=b7 _ r1;rw[<-this];congr 1;omega
     ·obtain⟨u,hu,hsc⟩:=xrel (k-ys.length) y j x (pnil _ y r2) r2 hj;have hkx:k-ys.length<xs.length:=(aU.1 r2).1;have hb1:(k-(n+ys.length))*p.sz+j<(p.n-n)*p.sz:=by have:=b7 p.sz (show k-(n+ys.length)+1<=p.n-n by rw[fS.n];omega);rw[da]at this;rw[E7]at this⊢;omega
      refine fin u hsc ?_;have:=q7 _ u hb1;rw[E7]at this hu⊢;have m1:(n+ys.length)*ti.ks.length<=k*ti.ks.length:=b7 _ r1;have e1:(k-(n+ys.length))*ti.ks.length=k*ti.ks.length-(n+ys.length)*ti.ks.length:=ub _ _ _;have e2:(k-ys.length)*ti.ks.length=k*ti.ks.length-ys.length*ti.ks.length:=ub _ _ _;have e3:(n+ys.length)*ti.ks.length=n*ti.ks.length+ys.length*ti.ks.length:=da _ _ _;rw[e1]at this;rw[e2]at hu;have:=this (by rw[<-hu];congr 2;omega);rw[<-this];congr 1;omega
   ·intro m o m' o' b h1 h2 _ _;obtain⟨rfl,_⟩:=hO m o h1;obtain⟨rfl,_⟩:=hO m' o' h2;rfl
   ·intro m o b h1 h2 h3;obtain⟨rfl,rfl⟩:=hO m o h1;exact hKp b h3 (He b h2)
   ·intro b hb;exact jb (b8.lt b hb) hI.size
   ·intro m bs h1;obtain⟨_,h2⟩:=hO m _ h1;cases h2
   ·intro b hb Jy;refine hI.old b hb (λhn he=> ?_);subst he;rcases xV hn with h|h
    ·omega
    ·exact Jy h
   ·rintro b ⟨m,o,h1,h2⟩;obtain⟨rfl,rfl⟩:=hO m o h1;obtain⟨q1,rfl⟩:=He b h2;rcases xV q1 with h|h
    ·exact .inr (by omega)
    ·exact .inl h
   ·intro m hm;have:m≠dL 500 0:=by rintro rfl;apply hm;rfl
    exact⟨bL this,bL this⟩
   ·show pO T w' c3 aq [.own (dL 500 0)] (lj p');show lj p'=lj (c3.P (dL 500 0));rw[hP3]
 ·cases h
end
end Go.FG.Ins

