/- slices.Insert at elements of plain cells, over any program that bears its text: a call of it does what is told. No condition but those that are stated. -/
import Derived.Test.YtijidheebmbkcaaLib
import Derived.Shelf.Bodies2
import Derived.Shelf.RegionOpenPlain
import Derived.WalkKit
import Derived.Lib.Walk
import Derived.Lib.SliceRun
import Derived.Lib.JoinLaws
import Derived.Lib.AppendZeros
import Derived.Lib.Overlaps
import Derived.Laws.Externs
import Derived.Laws.IdiomCopy
import Derived.Lib.AppendZerosOnto
set_option linter.unusedVariables false
set_option linter.unusedSimpArgs false
set_option maxRecDepth 100000
open Array renaming length_toList->c8,getElem?_toList->bY,getElem?_eq_some_iff->c_,append_assoc->Gv,getElem?_append_left->yz,getElem?_eq_none->A_
open Bool renaming true->ae,false->ah,and_eq_true->az
open Go renaming Program->b9,World->bf,Oper->dU,Operand->cL,Value->aR,TypeInfo->Da
open Go.Act renaming eval->Bn,put->L8
open Go.Builtin renaming copy_->eP,append_->fA,firstCells->dS,lenOf->mz,zeroCells->eb
open Go.Extern.SlicesOverlaps renaming overlaps->eZ
open Go.IntKind renaming i64->aj,wrap_i64->mZ
open Go.Lib renaming wpList_append_run->pS
open Go.Oper renaming wp->Gz
open Go.Region renaming wanted->qx
open Go.Result renaming andThen_ok->ba
open Go.Sem renaming run_bind->bJ,run_pure->bV,run->kj
open Go.Value renaming bool->xQ
open Go.World renaming cell?_of_block->qo,shape?->Pg,frozen?->Pf,cell?->Vj,setRow->i9
open Int renaming toNat_natCast->gY
open List renaming map_toArray->x_,map_cons->dW,map_nil->v7,length_take->eA,length_drop->im,getElem?_take->dj,getElem?_drop->c7,getElem?_of_mem->bB,getElem?_eq_some_iff->aG,getElem?_eq_getElem->dV,size_toArray->Mf,getElem?_toArray->fm,append_assoc->bR,getElem?_append_left->cS,getElem?_append_right->cm,all_eq_true->aZ,getElem_mem->bk,mem_of_getElem?->aD,eq_nil_of_length_eq_zero->eH,length_map->bC
open Nat renaming min->IP,le_refl->cD,eq_zero_or_pos->xR,add_zero->tn,mul_le_mul_right->bD,add_mul->cB,sub_mul->qy,min_def->EV,add_assoc->ju,zero_add->bu,beq->a_,eq_of_beq_eq_true->aJ,div_lt_iff_lt_mul->sV,mod_lt->xS,div_add_mod->CX,mul_comm->yH,lt_of_lt_of_le->gF
open Option renaming some->ab,none->af
open Option.some renaming inj->aq
open Prod.mk renaming inj->bn
open _root_ renaming Nat->au,Array->cG,List->ak,if_pos->br,Option->ar,Int->ax,if_neg->bF,absurd->bS,Bool->aL,cond_true->aw,decide_eq_true_eq->a9
namespace Go.FG.Ins
open Go Go.Shelf Go.RowKit Go.Lib Go.Proofs
structure L (P:b9) (ρ:Ren) (nm:String) (sz:au):Prop where
 mixed:P.follows .mixedOrders=ae
 f22:P.funcs[ρ.f 22]? =ab {Body2.n22 ρ with name:=nm}
 t3:P.underlying (ρ.t 3)=ab (TypeDesc.int aj)
 a3:∀w,(Go.isAgg (ρ.t 3)).run P w= .ok ah w
 t4:P.underlying (ρ.t 4)=ab (TypeDesc.bool)
 a4:∀w,(Go.isAgg (ρ.t 4)).run P w= .ok ah w
 t24:P.underlying (ρ.t 24)=ab (TypeDesc.slice (ρ.t 9))
 a24:∀w,(Go.isAgg (ρ.t 24)).run P w= .ok ah w
 z9:∀w,(Go.sizeOf (ρ.t 9)).run P w= .ok sz w
variable {P:b9} {ρ:Ren} {nm:String} {sz:au}
theorem wpList_copy(w:bf){ops:cG dU}{rest:ak dU}{o:dU}{a:Act}{Q:Exit->Act->bf->Prop}(hgd:o.guard=af)(d s:cL)(t t':TypeId)
  (ho:o.op= .call {callee:= .builtin .copy,args:= #[d,s],argTypes:= #[t,t']}) (v u:aR) (hd:a.eval d=v) (hs:a.eval s=u) {v':aR} {w':bf}
  (hr:(eP #[t,t'] o.type #[v,u]).run P w= .ok v' w') (h:wpList P ops Q rest (a.put o.dst v') w'):wpList P ops Q (o::rest) a w:=
 wpList_plain hgd λ_ hK=>by
  unfold Gz execOp;simp only[ho,resolve,invoke,builtin,bJ,bV,ba,x_,dW,v7,hd,hs,hr];exact hK _ _ h
theorem step_copy{ops:cG dU}{o:dU}{a:Act}{w:bf}{K:Act->bf->Prop}{Q:Exit->Act->bf->Prop}{E:Prop}
  (hg:o.guard=af) (d x:cL) (dT sT:TypeId) (Zi:o.op=Op.call {callee:=Callee.builtin Builtin.copy,args:= #[d,x],argTypes:= #[dT,sT]})
  (v u:aR) (hd:a.eval d=v) (hx:a.eval x=u) {v':aR} {w':bf} (hr:(eP #[dT,sT] o.type #[v,u]).run P w= .ok v' w') (hK:K (a.put o.dst v') w'):
  if qx o (yielded ops a.tmps)=ae then Gz P o a w K Q else E:=by
 have hw:qx o (yielded ops a.tmps)=true:=by simp[qx,hg]
 rw[br hw];unfold Gz;simp[execOp,Zi,resolve,invoke,builtin,hd,hx,hr,Result.andThen];exact hK
set_option maxHeartbeats 4000000 in
set_option maxRecDepth 100000 in
theorem zero(l:L P ρ nm sz)(w:bf)(A B:ar Addr)(n c i vc:au)(hi:i<=n)(hn:n<=9223372036854775807)(hA:A=af/\n=0\/∃b o,A=ab ⟨b,o,af⟩):
  Calls P (ρ.f 22) #[.slice A n c, .int .i64 i, .slice B 0 vc] w λe w'=>e= .returned (.slice A n c)/\w'=w:=by
 have t3:=l.t3;have a3:=l.a3;have t4:=l.t4;have a4:=l.a4;have t24:=l.t24;have a24:=l.a24;have z9:=l.z9;have u3:=run_underlying l.t3;have u4:=run_underlying l.t4;have u24:=run_underlying l.t24;have hb1:(0:ax)<=(i:ax):=by omega
 have y_:(i:ax)<=(n:ax):=by omega
 go_enter l.f22,Body2.n22_ntmps ρ;rcases hA with ⟨rfl,rfl⟩|⟨b,o,rfl⟩
 ·obtain rfl:i=0:=by omega
  go_wp2;go_ret;exact⟨rfl,rfl⟩
 ·go_wp2;all_goals (go_ret;exact⟨rfl,rfl⟩)
set_option maxHeartbeats 4000000 in
set_option maxRecDepth 100000 in
theorem atEnd(l:L P ρ nm sz)(w w1:bf)(A B:ar Addr)(n c m vc:au)(r:aR)(hm:0<m)(hn:n<=9223372036854775807)(hA:A=af/\n=0\/∃b o,A=ab ⟨b,o,af⟩)
  (h1:∀ty,(fA #[ρ.t 24,ρ.t 24] ty #[.slice A n c, .slice B m vc]).run P w= .ok r w1):
  Calls P (ρ.f 22) #[.slice A n c, .int .i64 n, .slice B m vc] w λe w'=>e= .returned r/\w'=w1:=by
 have t3:=l.t3;have a3:=l.a3;have t4:=l.t4;have a4:=l.a4;have t24:=l.t24;have a24:=l.a24;have z9:=l.z9;have u3:=run_underlying l.t3;have u4:=run_underlying l.t4;have u24:=run_underlying l.t24;have C1:¬((m:ax)=0):=by omega
 go_enter l.f22,Body2.n22_ntmps ρ;rcases hA with ⟨rfl,rfl⟩|⟨b,o,rfl⟩
 ·go_wp2_with (at_builtin;refine pS _ rfl _ _ _ _ rfl _ _ rfl rfl _ _ (h1 _) ?_)
  go_ret;exact⟨rfl,rfl⟩
 ·go_wp2_with (at_builtin;refine pS _ rfl _ _ _ _ rfl _ _ rfl rfl _ _ (h1 _) ?_)
  all_goals (go_ret;exact⟨rfl,rfl⟩)
set_option maxHeartbeats 4000000 in
set_option maxRecDepth 100000 in
theorem shift(l:L P ρ nm sz)(w w1 w2:bf)(x1 x2:aR)(b o n c i m vc:au)(B:ar Addr)(hi:i<n)(hm:0<m)(hroom:n+m<=c)(hc63:c<=9223372036854775807)
  (G_:∀lb cb,(callFunc (ρ.f 29) #[.slice B m vc, .slice (ab ⟨b,o+(i+m)*sz,af⟩) lb cb]).run P w= .ok (.value (.bool ah)) w)
  (h1:∀ty,(eP #[ρ.t 24,ρ.t 24] ty #[.slice (ab ⟨b,o+(i+m)*sz,af⟩) (n+m-(i+m)) (c-(i+m)), .slice (ab ⟨b,o+i*sz,af⟩) (n+m-i) (c-i)]).run P w.drew= .ok x1 w1)
  (h2:∀ty,(eP #[ρ.t 24,ρ.t 24] ty #[.slice (ab ⟨b,o+i*sz,af⟩) (n+m-i) (c-i), .slice B m vc]).run P w1= .ok x2 w2):
  Calls P (ρ.f 22) #[.slice (ab ⟨b,o,af⟩) n c, .int .i64 i, .slice B m vc] w λe w'=>e= .returned (.slice (ab ⟨b,o,af⟩) (n+m) c)/\w'=w2:=by
 have t3:=l.t3;have a3:=l.a3;have t4:=l.t4;have a4:=l.a4;have t24:=l.t24;have a24:=l.a24;have z9:=l.z9;have u3:=run_underlying l.t3;have u4:=run_underlying l.t4;have u24:=run_underlying l.t24;have C1:¬((m:ax)=0):=by omega
 have yo:¬((i:ax)=(n:ax)):=by omega
 have mixed:=l.mixed;have hw1:aj.wrap ((i:ax)+(m:ax))=(i:ax)+(m:ax):=by rw[mZ];omega
 have hb1:(0:ax)<=(i:ax)+(m:ax):=by omega
 have fO:i<=n:=by omega
 have htn:((i:ax)+(m:ax)).toNat=i+m:=by omega
 have y_:¬(c=i+m):=by omega
 have hb3:(i:ax)<=(n:ax)+(m:ax):=by omega
 have hb4:¬(c=i):=by omega
 go_enter l.f22,Body2.n22_ntmps ρ;go_wp2_with (simp only[G_])
 go_region_law_o (refine step_copy rfl _ _ (ρ.t 24) (ρ.t 24) rfl _ _ (by simp[Bn,L8]) (by simp[Bn,L8]) (h1 _) ?_);go_wp2_with (at_builtin;refine wpList_copy _ rfl _ _ (ρ.t 24) (ρ.t 24) rfl _ _ rfl rfl (h2 _) ?_)
 go_ret;exact⟨rfl,rfl⟩
set_option maxHeartbeats 4000000 in
set_option maxRecDepth 100000 in
theorem grow(l:L P ρ nm sz)(w w1 w2 w3:bf)(x2 x3:aR)(b o b' n c c' i m vc:au)(B:ar Addr)(hi:i<n)(hm:0<m)(J6:n<=c)(hroom:c<n+m)(Nw:n+m<=9223372036854775807)(BX:n+m<=c')(hc63:c'<=9223372036854775807)
  (h1:∀ty,(fA #[ρ.t 24,ρ.t 3] ty #[.slice (ab ⟨b,o,af⟩) i c, .int .i64 ((n:ax)+(m:ax)-(i:ax))]).run P w= .ok (.slice (ab ⟨b',0,af⟩) (n+m) c') w1)
  (h2:∀ty,(eP #[ρ.t 24,ρ.t 24] ty #[.slice (ab ⟨b',i*sz,af⟩) (n+m-i) (c'-i), .slice B m vc]).run P w1= .ok x2 w2)
  (h3:∀ty,(eP #[ρ.t 24,ρ.t 24] ty #[.slice (ab ⟨b',(i+m)*sz,af⟩) (n+m-(i+m)) (c'-(i+m)), .slice (ab ⟨b,o+i*sz,af⟩) (n-i) (c-i)]).run P w2.drew= .ok x3 w3):
  Calls P (ρ.f 22) #[.slice (ab ⟨b,o,af⟩) n c, .int .i64 i, .slice B m vc] w λe w'=>e= .returned (.slice (ab ⟨b',0,af⟩) (n+m) c')/\w'=w3:=by
 have t3:=l.t3;have a3:=l.a3;have t4:=l.t4;have a4:=l.a4;have t24:=l.t24;have a24:=l.a24;have z9:=l.z9;have u3:=run_underlying l.t3;have u4:=run_underlying l.t4;have u24:=run_underlying l.t24;have C1:¬((m:ax)=0):=by omega
 have yo:¬((i:ax)=(n:ax)):=by omega
 have Zp:(c:ax)<(n:ax)+(m:ax):=by omega
 have mixed:=l.mixed;have hw0:aj.wrap ((n:ax)+(m:ax))=(n:ax)+(m:ax):=by rw[mZ];omega
 have hw2:aj.wrap ((n:ax)+(m:ax)-(i:ax))=(n:ax)+(m:ax)-(i:ax):=by rw[mZ];omega
 have hw1:aj.wrap ((i:ax)+(m:ax))=(i:ax)+(m:ax):=by rw[mZ];omega
 have hb1:(0:ax)<=(i:ax)+(m:ax):=by omega
 have fO:i<=n:=by omega
 have htn:((i:ax)+(m:ax)).toNat=i+m:=by omega
 have hGi:¬(c'=i):=by omega
 have hGim:¬(c'=i+m):=by omega
 have SQ:¬(c=i):=by omega
 have hic:i<=c:=by omega
 have hb3:(i:ax)<=(n:ax):=by omega
 have hb4:(i:ax)<=(n:ax)+(m:ax):=by omega
 go_enter l.f22,Body2.n22_ntmps ρ
 go_wp2_with (first
  |(at_builtin;refine pS _ rfl _ _ _ _ rfl _ _ rfl rfl _ _ (h1 _) ?_)
  |(at_builtin;refine wpList_copy _ rfl _ _ (ρ.t 24) (ρ.t 24) rfl _ _ rfl rfl (h2 _) ?_))
 go_region_law_o (refine step_copy rfl _ _ (ρ.t 24) (ρ.t 24) rfl (.slice (ab ⟨b',(i+m)*sz,af⟩) (n+m-(i+m)) (c'-(i+m))) (.slice (ab ⟨b,o+i*sz,af⟩) (n-i) (c-i)) (by simp[Bn,L8]) (by simp[Bn,L8]) (h3 (ρ.t 3)) ?_);go_wp2;go_ret;exact⟨rfl,rfl⟩
end Go.FG.Ins

namespace Go.FG.Ins
open Go Go.Shelf Go.RowKit Go.Lib Go.Proofs
section
variable {P:b9}
theorem run_copyG{w:bf}{dT sT ty elem sz b o dLen dCap sLen sCap m:au}{B:ar Addr}{cs:ak aR}{cur:cG aR}(hu:P.underlying dT=ab (.slice elem))(hs:∀w,(sizeOf elem).run P w= .ok sz w)
  (hf:(dS sz m (.slice B sLen sCap)).run P w= .ok cs.toArray w) (hm:IP sLen dLen=m) (hb:k8 w b cur) (hl:o+cs.length<=cur.size) (h1:∀v∈cs,v.oneCell'=ae):
  (eP #[dT,sT] ty #[.slice (ab (ad b o)) dLen dCap, .slice B sLen sCap]).run P w= .ok (goInt m) (w.setRow b (dq cur o cs)):=by have DW:=kM (P:=P) w hb hl h1;have sc:min sLen dLen=m:=hm;simp[eP,run_underlying hu,mz,hs,sc,hf,DW]
theorem blk_drew{w:bf}{b:au}{cur:cG aR}(h:k8 w b cur):k8 w.drew b cur:=h
theorem cell_setRow_other{w:bf}{b b2 o:au}{new:cG aR}(h:b2≠b):(w.setRow b new).cell? (ad b2 o)=w.cell? (ad b2 o):=qo (setRow_other w b b2 _ h)
structure Insd (w w':bf) (p p':Pl) (i m:au) (news:ak aR):Prop where
 n:p'.n=p.n+m
 sz:p'.sz=p.sz
 nil:p'.nil=ae->p'.cap=0/\p.n=0/\m=0
 mem:p'.nil=ah->∃gh,k8 w' p'.blk gh/\p'.n<=p'.cap/\p'.cap<=maxLen/\p'.off+p'.cap*p'.sz<=gh.size/\
  (∀k u,k<i*p.sz->w.cell? (ad p.blk (p.off+k))=ab u->gh[p'.off+k]? =ab u)/\(∀k,k<m*p.sz->gh[p'.off+i*p.sz+k]? =news[k]?)/\
  (∀k u,k<(p.n-i)*p.sz->w.cell? (ad p.blk (p.off+i*p.sz+k))=ab u->gh[p'.off+(i+m)*p.sz+k]? =ab u)
 blk:p'.nil=ah->(p.nil=ah/\p'.blk=p.blk)\/p'.blk=w.heap.size
 old:∀b,b<w.heap.size->(p'.nil=ah->b≠p'.blk)->w'.heap[b]? =w.heap[b]?
 size:w.heap.size<=w'.heap.size
 os:w'.os=w.os
 tape:w'.tape=w.tape
 output:w'.output=w.output
structure Pre (w:bf) (p:Pl):Prop where
 nil:p.nil=ae->p.n=0/\p.cap=0
 mem:p.nil=ah->∃vals,k8 w p.blk vals/\p.n<=p.cap/\p.cap<=maxLen/\p.off+p.cap*p.sz<=vals.size
variable {ρ:Ren} {nm:String}
theorem overlaps_false{w:bf}{tS tR e:TypeId}(ht:P.underlying tS=ab (.slice e)){size:au}(hz:∀w,(Go.sizeOf e).run P w= .ok size w){B:ar Addr}{m vc b o:au}{vals:cG aR}(hb:k8 w b vals)(ho:o<vals.size)
  (hB:∀a,B=ab a->0<m->a.block≠b/\∃t k,w.shape? a.block=ab (t,k+1)) (lb cb:au):
  (eZ #[tS,tS] #[tR] #[.slice B m vc, .slice (ab (ad b o)) lb cb]).run P w= .ok (.bool ah) w:=by
 obtain⟨t,fr,hg,wN⟩:=hb;have hsb:w.shape? b=ab (t,vals.size):=by simp[Pg,hg]
 have f1:w.frozen? ⟨b,o,af⟩=false:=by have:=wN o (by omega);simpa [Pf,hg]using this
 have f2:w.frozen? ⟨b,vals.size,af⟩=false:=by have:=wN vals.size (cD _);simpa [Pf,hg]using this
 have hne0:vals.size≠0:=by omega
 change kj P (α:=aR) (do
  let ab t:=(#[tS,tS]:cG TypeId)[0]? |stuck "slices.overlaps: no parameter types"
  let .slice elem<-underlying t|stuck "slices.overlaps: slice type expected"
  let size<-sizeOf elem
  match B,(ab (ad b o):ar Addr)with
  |some a,ab b=>
   if m=0\/lb=0\/size=0 then pure (xQ ah)
   else if a.block !=b.block&&(<-frozen a)&&(<-frozen b)then unsupported .addressObserved
   else do
    if a.block !=b.block then do
     noView a;noView b
     if<-mayBeOne a b then return xQ ((<-choose (.extern "sameAddr.stringBytes" 2))==1)
    pure (xQ (a.block==b.block&&a.off<b.off+lb*size&&b.off<a.off+m*size))
  |_,_=>pure (xQ ah)) w=_
 cases B with
 |none=>simp[run_underlying ht,hz]
 |some a=>
  by_cases h0:m=0\/lb=0\/size=0
  ·simp[run_underlying ht,hz,h0]
  ·have hm:0<m:=by omega
   obtain⟨fP,ta,k,hsa⟩:=hB a rfl hm;have DU:(a.block !=b)=true:=by simpa using fP
   have hnb':(a.block==b)=false:=by simpa using fP
   obtain⟨n,hn⟩:∃n,vals.size=n+1:=⟨vals.size-1,by omega⟩
   rw[hn]at hsb f2;simp[run_underlying ht,hz,h0,DU,hnb',fP,frozen,noView,viewAt,mayBeOne,stringish,shape,kj,hsa,hsb,f1,f2]
theorem first_of{w:bf}{sz m b o len cap:au}{cs:ak aR}(hl:cs.length=m*sz)(h:∀j u,cs[j]? =ab u->w.cell? (ad b (o+j))=ab u):(dS sz m (.slice (ab (ad b o)) len cap)).run P w= .ok cs.toArray w:=
 run_firstCells_some w sz m _ _ _ cs hl (λj v hj=>by rw[Addr.ld];exact h j v hj)
theorem insert_run{sz:au}(l:L P ρ nm sz){inf:Da}{z:aR}(hi:P.info? (ρ.t 9)=ab inf)(hz:inf.zero=ab z)(Ii:z.cells.size=sz)(eM:inf.size=sz)(iP:0<sz)
  (G_:∀args w,(callFunc (ρ.f 29) args).run P w=((eZ #[ρ.t 24,ρ.t 24] #[ρ.t 4] args).run P w).andThen λv w'=> .ok (.value v) w')
  {w:bf} {p:Pl} (hp:p.sz=sz) (pre:Pre w p) {i m vc:au} {B:ar Addr} {news:ak aR} (fO:i<=p.n) (hv:news.length=m*sz) (hB:m=0\/∃b2 o2,B=ab (ad b2 o2)/\(p.nil=ah->b2≠p.blk)/\∀j u,news[j]? =ab u->w.cell? (ad b2 (o2+j))=ab u)
  (sd:∀v∈news,v.oneCell'=ae) (h1:(p.n+m)*inf.bytes<=140737488355328) (h2:p.n+m<=9223372036854775807) (hone2:∀vals k v,p.nil=ah->k8 w p.blk vals->k<p.n*sz->vals[p.off+k]? =ab v->v.oneCell'=ae):
  ∃p' w',Insd w w' p p' i m news/\Calls P (ρ.f 22) #[jj p, .int .i64 i, .slice B m vc] w (λe w2=>e= .returned (jj p')/\w2=w'):=by
 subst hp;have P8:p.n<=9223372036854775807:=by omega
 rcases xR m with rfl|hm
 ·refine⟨p,w,⟨rfl,rfl,λh=>⟨(pre.nil h).2,(pre.nil h).1,rfl⟩,λh=> ?_,λh=> .inl ⟨h,rfl⟩,λ_ _ _=>rfl,cD _,rfl,rfl,rfl⟩, ?_⟩
  ·obtain⟨vals,hb,q1,q2,q3⟩:=pre.mem h;refine⟨vals,hb,q1,q2,q3,λk u _ hu=>by rw[<-hb.cell];exact hu,λk hk=>by simp at hk,λk u _ hu=> ?_⟩
   rw[<-hb.cell,tn];exact hu
  ·cases hq:p.nil with
   |true=>have h0:=(pre.nil hq).1;rw[kK hq];have:=zero l w af B 0 0 i vc (by omega) (by omega) (.inl ⟨rfl,rfl⟩);exact this
   |false=>rw[dK hq];exact zero l w _ B p.n p.cap i vc fO P8 (.inr ⟨_,_,rfl⟩)
 ·obtain⟨b2,o2,rfl,y_,hcell⟩:=hB.resolve_left (by omega);by_cases hend:i=p.n
  ·subst hend;have happ:App P w (ρ.t 24) (.slice (ab (ad b2 o2)) m vc) z.cells p.sz m news:=by refine⟨.inl ⟨.inl ⟨_,l.t24⟩,by simp[mz],first_of hv hcell,first_of (w:=w.drew) hv hcell⟩,hv,sd⟩
   obtain⟨p',w',hr,hA⟩:=pJ (P:=P) (w:=w) (t:=ρ.t 24) (u:=ρ.t 24) (ty:=0) (p:=p) l.t24 hi hz Ii eM (λh=>(pre.nil h).1) pre.mem happ h1 h2;refine⟨p',w',⟨hA.n,hA.sz,hA.nil,λh=> ?_,hA.blk,hA.old,hA.size,hA.os,hA.tape,hA.output⟩, ?_⟩
   ·obtain⟨gh,q1,q2,q3,q4,q5,q6⟩:=hA.mem h;exact⟨gh,q1,q2,q3,q4,q5,q6,λk u hk _=>by simp at hk⟩
   ·have yk:∀ty,(fA #[ρ.t 24,ρ.t 24] ty #[jj p, .slice (ab (ad b2 o2)) m vc]).run P w= .ok (jj p') w':=λty=>hr;cases hq:p.nil with
    |true=>have h0:=(pre.nil hq).1;rw[kK hq]at yk⊢;have:=atEnd l w w' af (ab (ad b2 o2)) 0 0 m vc (jj p') hm (by omega) (.inl ⟨rfl,rfl⟩) yk;rw[h0];exact this
    |false=>rw[dK hq]at yk⊢;exact atEnd l w w' _ (ab (ad b2 o2)) p.n p.cap m vc (jj p') hm P8 (.inr ⟨_,_,rfl⟩) yk
  ·have ix:i<p.n:=by omega
   have hq:p.nil=false:=by
    cases h:p.nil with
    |false=>rfl
    |true=>have:=(pre.nil h).1;omega
   obtain⟨vals,hb,J6,Nx,mJ⟩:=pre.mem hq;have fP:=y_ hq;rw[dK hq];have m1:i*p.sz<=p.n*p.sz:=bD _ fO;have m2:p.n*p.sz<=p.cap*p.sz:=bD _ J6;have e1:(i+m)*p.sz=i*p.sz+m*p.sz:=cB _ _ _;have e2:(p.n-i)*p.sz=p.n*p.sz-i*p.sz:=qy _ _ _;have m0:i*p.sz+p.sz<=p.n*p.sz:=by have:=bD p.sz (show i+1<=p.n by omega);rwa[cB,Nat.one_mul]at this
   have hp0:p.sz<=m*p.sz:=Nat.le_mul_of_pos_left _ hm;have n1:IP (p.n+m-i) (p.n+m-(i+m))=p.n-i:=by simp only[EV];split<;>omega
   have n2:IP m (p.n+m-i)=m:=by simp only[EV];split<;>omega
   have n3:IP (p.n-i) (p.n+m-(i+m))=p.n-i:=by simp only[EV];split<;>omega
   let tail:=(vals.toList.drop (p.off+i*p.sz)).take ((p.n-i)*p.sz);have htl:tail.length=(p.n-i)*p.sz:=by simp only[tail,eA,im,c8];omega
   have htg:∀k,k<(p.n-i)*p.sz->tail[k]? =vals[p.off+i*p.sz+k]? :=λk hk=>by simp only[tail,dj,br hk,c7,bY]
   have UG:∀v∈tail,v.oneCell'=true:=λv hv=>by
    obtain⟨k,hk⟩:=bB hv;have DT:k<(p.n-i)*p.sz:=by rw[<-htl];exact(aG.1 hk).1
    rw[htg k DT]at hk;exact hone2 vals (i*p.sz+k) v hq hb (by omega) (by rw[<-ju];exact hk)
   by_cases hroom:p.n+m<=p.cap
   ·-- in place
    have m3:(p.n+m)*p.sz<=p.cap*p.sz:=bD _ hroom;rw[cB]at m3;have FK:p.off+(i+m)*p.sz+tail.length<=vals.size:=by rw[htl];omega
    have hb1:k8 (w.drew.setRow p.blk (dq vals (p.off+(i+m)*p.sz) tail)) p.blk (dq vals (p.off+(i+m)*p.sz) tail):=k8.setRow (w:=w.drew) (blk_drew hb) (dL FK);have hl2:p.off+i*p.sz+news.length<=(dq vals (p.off+(i+m)*p.sz) tail).size:=by rw[dL FK,hv];omega
    have c1:∀ty,(eP #[ρ.t 24,ρ.t 24] ty #[.slice (ab ⟨p.blk,p.off+(i+m)*p.sz,af⟩) (p.n+m-(i+m)) (p.cap-(i+m)), .slice (ab ⟨p.blk,p.off+i*p.sz,af⟩) (p.n+m-i) (p.cap-i)]).run P w.drew= .ok (goInt ((p.n-i:au):ax)) (w.drew.setRow p.blk (dq vals (p.off+(i+m)*p.sz) tail)):=λty=>
     run_copyG (P:=P) (w:=w.drew) l.t24 l.z9 (first_of (w:=w.drew) htl (λj u hj=>by
      have jc:j<(p.n-i)*p.sz:=by rw[<-htl];exact(aG.1 hj).1
      rw[htg j jc]at hj;exact(hb.cell _).trans hj)) n1 (blk_drew hb) FK UG
    have c2:∀ty,(eP #[ρ.t 24,ρ.t 24] ty #[.slice (ab ⟨p.blk,p.off+i*p.sz,af⟩) (p.n+m-i) (p.cap-i), .slice (ab (ad b2 o2)) m vc]).run P (w.drew.setRow p.blk (dq vals (p.off+(i+m)*p.sz) tail))= .ok (goInt m) ((w.drew.setRow p.blk (dq vals (p.off+(i+m)*p.sz) tail)).setRow p.blk (dq (dq vals (p.off+(i+m)*p.sz) tail) (p.off+i*p.sz) news)):=λty=>
     run_copyG (P:=P) l.t24 l.z9 (first_of hv (λj u hj=>by rw[cell_setRow_other fP];exact hcell j u hj)) n2 hb1 hl2 sd
    have hcal:=shift l w _ _ _ _ p.blk p.off p.n p.cap i m vc (ab (ad b2 o2)) ix hm hroom Nx (λlb cb=>by
     rw[G_,overlaps_false (P:=P) (w:=w) l.t24 l.z9 hb (o:=p.off+(i+m)*p.sz) (by omega) (λa ha _=>by
      cases ha;have h0:0<news.length:=by rw[hv];omega
      have:=hcell 0 _ (dV h0);refine⟨fP, ?_⟩
      unfold Vj at this;unfold Pg;split at this
      ·rename_i cc tt ff hg;rw[hg];simp at this;obtain⟨hlt2,_⟩:=c_.1 this;exact⟨tt,cc.size-1,by simp;omega⟩
      ·cases this) lb cb]
     rfl) c1 c2
    refine⟨⟨ah,p.blk,p.off,p.cap,p.n+m,p.sz⟩,(w.drew.setRow p.blk (dq vals (p.off+(i+m)*p.sz) tail)).setRow p.blk (dq (dq vals (p.off+(i+m)*p.sz) tail) (p.off+i*p.sz) news),⟨rfl,rfl,λh=>(by cases h),λ_=> ?_,λ_=> .inl ⟨hq,rfl⟩,λb H_ DU=> ?_,by simp[i9],rfl,rfl,rfl⟩,by rw[dK rfl];exact hcal⟩
    ·refine⟨_,hb1.setRow (dL hl2),hroom,Nx,by rw[dL hl2,dL FK];exact mJ,λk u hk hu=> ?_,λk hk=> ?_,λk u hk hu=> ?_⟩
     ·show(dq (dq vals (p.off+(i+m)*p.sz) tail) (p.off+i*p.sz) news)[p.off+k]? =ab u;rw[eL hl2,bF (by omega),eL FK,bF (by omega),<-hb.cell];exact hu
     ·show(dq (dq vals (p.off+(i+m)*p.sz) tail) (p.off+i*p.sz) news)[p.off+i*p.sz+k]? =news[k]?;rw[eL hl2,br (by rw[hv];omega)];congr 1;omega
     ·show(dq (dq vals (p.off+(i+m)*p.sz) tail) (p.off+i*p.sz) news)[p.off+(i+m)*p.sz+k]? =ab u;rw[eL hl2,bF (by rw[hv];omega),eL FK,br (by rw[htl];omega),show p.off+(i+m)*p.sz+k-(p.off+(i+m)*p.sz)=k by omega,htg k hk,<-hb.cell];exact hu
    ·have hbne:b≠p.blk:=DU rfl;rw[setRow_other _ _ b _ hbne,setRow_other _ _ b _ hbne];rfl
   ·-- a new row
    have Wf:p.cap<p.n+m:=by omega
    let mm:=(vals.toList.drop p.off).take (i*p.sz);have za:mm.length=i*p.sz:=by simp only[mm,eA,im,c8];omega
    have hog:∀k,k<i*p.sz->mm[k]? =vals[p.off+k]? :=λk hk=>by simp only[mm,dj,br hk,c7,bY]
    have P5:i+(p.n+m-i)=p.n+m:=by omega
    have J3:(p.n:ax)+(m:ax)-(i:ax)=((p.n+m-i:au):ax):=by omega
    have hold:(dS inf.size i (.slice (ab (ad p.blk p.off)) i p.cap)).run P w.drew= .ok mm.toArray w.drew:=by
     rw[eM];exact first_of (w:=w.drew) za (λj u hj=>by
      have jc:j<i*p.sz:=by rw[<-za];exact(aG.1 hj).1
      rw[hog j jc]at hj;exact(hb.cell _).trans hj)
    have hG:=grownCap_ge w (p.n+m) p.cap (ρ.t 9);have Uz:=grownCap_le_maxLen w (p.n+m) p.cap (ρ.t 9) (by unfold maxLen;omega);generalize hGd:grownCap w (p.n+m) p.cap (ρ.t 9)=G at hG Uz;obtain⟨arr,harr⟩:∃arr:cG aR,arr=mm.toArray++eb z.cells (p.n+m-i)++eb z.cells (G-(p.n+m)):=⟨_,rfl⟩
    have a1:∀ty,(fA #[ρ.t 24,ρ.t 3] ty #[.slice (ab ⟨p.blk,p.off,af⟩) i p.cap, .int .i64 ((p.n:ax)+(m:ax)-(i:ax))]).run P w= .ok (.slice (ab ⟨w.heap.size,0,af⟩) (p.n+m) G) (w.drew.alloc (.cells arr (ρ.t 9))):=λty=>by have hmb:(p.n+m-i)*inf.bytes<=(p.n+m)*inf.bytes:=bD _ (by omega);have h:=Lib.run_append_grow_zeros w (ρ.t 24) (ρ.t 3) ty (ρ.t 9) inf z .i64 .i64 l.t24 l.t3 hi hz (ab (ad p.blk p.off)) i p.cap mm hold (p.n+m-i) (by omega) (by omega) (by omega) (by omega) (by omega) (by rw[P5];exact growslice_fits Wf h1);rw[P5,hGd,<-harr]at h;rw[J3];exact h
    have sarr:arr.size=i*p.sz+(p.n+m-i)*p.sz+(G-(p.n+m))*p.sz:=by rw[harr];simp only[Array.size_append,Mf,size_zeroCells,Ii,za]
    have e3:(p.n+m-i)*p.sz=p.n*p.sz+m*p.sz-i*p.sz:=by rw[qy,cB]
    have e4:G*p.sz=(p.n*p.sz+m*p.sz)+(G-(p.n+m))*p.sz:=by rw[<-cB,<-cB];congr 1;omega
    have hbw:p.blk<w.heap.size:=hb.lt;have SK:k8 (w.drew.alloc (.cells arr (ρ.t 9))) w.heap.size arr:=k8.alloc w.drew arr _;have FK:i*p.sz+news.length<=arr.size:=by rw[sarr,hv];omega
    have hb1:=SK.setRow (new:=dq arr (i*p.sz) news) (dL FK);have hl2:(i+m)*p.sz+tail.length<=(dq arr (i*p.sz) news).size:=by rw[dL FK,sarr,htl];omega
    have hb2w:b2<w.heap.size:=by
     have h0:0<news.length:=by rw[hv];omega
     exact block_lt_of_cell (hcell 0 _ (dV h0))
    have oldc:∀b o,b<w.heap.size->(w.drew.alloc (.cells arr (ρ.t 9))).cell? (ad b o)=w.cell? (ad b o):=λb o SM=>qo (heap_alloc_old w.drew _ SM);have c1:∀ty,(eP #[ρ.t 24,ρ.t 24] ty #[.slice (ab ⟨w.heap.size,i*p.sz,af⟩) (p.n+m-i) (G-i), .slice (ab (ad b2 o2)) m vc]).run P (w.drew.alloc (.cells arr (ρ.t 9)))= .ok (goInt m) ((w.drew.alloc (.cells arr (ρ.t 9))).setRow w.heap.size (dq arr (i*p.sz) news)):=λty=>
     run_copyG (P:=P) l.t24 l.z9 (first_of hv (λj u hj=>by rw[oldc _ _ hb2w];exact hcell j u hj)) n2 SK FK sd
    have c2:∀ty,(eP #[ρ.t 24,ρ.t 24] ty #[.slice (ab ⟨w.heap.size,(i+m)*p.sz,af⟩) (p.n+m-(i+m)) (G-(i+m)), .slice (ab ⟨p.blk,p.off+i*p.sz,af⟩) (p.n-i) (p.cap-i)]).run P ((w.drew.alloc (.cells arr (ρ.t 9))).setRow w.heap.size (dq arr (i*p.sz) news)).drew= .ok (goInt ((p.n-i:au):ax)) (((w.drew.alloc (.cells arr (ρ.t 9))).setRow w.heap.size (dq arr (i*p.sz) news)).drew.setRow w.heap.size (dq (dq arr (i*p.sz) news) ((i+m)*p.sz) tail)):=λty=>
     run_copyG (P:=P) (w:=((w.drew.alloc (.cells arr (ρ.t 9))).setRow w.heap.size (dq arr (i*p.sz) news)).drew) l.t24 l.z9 (first_of htl (λj u hj=>by
      have jc:j<(p.n-i)*p.sz:=by rw[<-htl];exact(aG.1 hj).1
      rw[htg j jc]at hj;show((w.drew.alloc (.cells arr (ρ.t 9))).setRow w.heap.size (dq arr (i*p.sz) news)).cell? (ad p.blk (p.off+i*p.sz+j))=ab u;rw[cell_setRow_other (by omega),oldc _ _ hbw];exact(hb.cell _).trans hj)) n3 (blk_drew hb1) hl2 UG
    have hcal:=grow l w _ _ _ _ _ p.blk p.off w.heap.size p.n p.cap G i m vc (ab (ad b2 o2)) ix hm J6 Wf h2 hG Uz a1 c1 c2;refine⟨⟨ah,w.heap.size,0,G,p.n+m,p.sz⟩,((w.drew.alloc (.cells arr (ρ.t 9))).setRow w.heap.size (dq arr (i*p.sz) news)).drew.setRow w.heap.size (dq (dq arr (i*p.sz) news) ((i+m)*p.sz) tail),⟨rfl,rfl,λh=>(by cases h),λ_=> ?_,λ_=> .inr rfl,λb H_ DU=> ?_,by simp[i9],rfl,rfl,rfl⟩,by rw[dK rfl];exact hcal⟩
    ·refine⟨_,k8.setRow (w:=((w.drew.alloc (.cells arr (ρ.t 9))).setRow w.heap.size (dq arr (i*p.sz) news)).drew) (blk_drew hb1) (dL hl2),hG,Uz,by rw[dL hl2,dL FK,sarr];show 0+G*p.sz<=_;omega,λk u hk hu=> ?_,λk hk=> ?_,λk u hk hu=> ?_⟩
     ·show(dq (dq arr (i*p.sz) news) ((i+m)*p.sz) tail)[0+k]? =ab u;rw[bu,eL hl2,bF (by omega),eL FK,bF (by omega),harr,Gv,yz (by simp[za];omega),fm,hog k hk,<-hb.cell];exact hu
     ·show(dq (dq arr (i*p.sz) news) ((i+m)*p.sz) tail)[0+i*p.sz+k]? =news[k]?;rw[bu,eL hl2,bF (by omega),eL FK,br (by rw[hv];omega)];congr 1;omega
     ·show(dq (dq arr (i*p.sz) news) ((i+m)*p.sz) tail)[0+(i+m)*p.sz+k]? =ab u;rw[bu,eL hl2,br (by rw[htl];omega),show(i+m)*p.sz+k-(i+m)*p.sz=k by omega,htg k hk,<-hb.cell];exact hu
    ·have hbne:b≠w.heap.size:=by omega
     rw[setRow_other _ _ b _ hbne];show((w.drew.alloc (.cells arr (ρ.t 9))).setRow w.heap.size (dq arr (i*p.sz) news)).heap[b]? =_;rw[setRow_other _ _ b _ hbne,heap_alloc_old w.drew _ H_];rfl
end
end Go.FG.Ins

namespace Go.FG.Ins
open Go Go.Shelf Go.RowKit Go.Lib Go.Proofs
abbrev ofTab(T:Tab):eh:={toTab:=T,call:=λ_ _=>af,om:=λ_ _=> .nat,mode:=λ_ _=>ah,keep:=λ_=>[],tk:=λ_=>false}
theorem holdsK{T:Tab}{w:bf}{K:au->Prop}{v:aR}{e:au}{ys:aY}(h:ch T w K v (.l e ys))(h0:ys≠[]){b o n c:au}(hv:v= .slice (ab (ad b o)) n c):K b:=by
 cases h with
 |nl=>exact bS rfl h0
 |l e xs b' o' c' LP U ht hc hm hK hs hcell fO=>cases hv;exact hK
def si(e bytes:au):ak dO->ar (aL×dp)
 |[.v ah [.ow e1 ae xs], .v ah [.i .i64 i], .v ah [.sh e2 ys]]=>bif a_ e1 e&&a_ e2 e then
  ab (decide (0<=i)&&decide (i<=(xs.length:ax))&&cX (xs.length+ys.length) bytes,⟨[.v ah [.ow e ae (Pu.pr xs i.toNat ys)]],[]⟩)else af
 |_=>af
theorem insR_get{xs ys:aY}{i:au}(h:i<=xs.length)(k:au)(y:ak CV)(hk:(Pu.pr xs i ys)[k]? =ab y):
  (k<i/\xs[k]? =ab y)\/(i<=k/\k<i+ys.length/\ys[k-i]? =ab y)\/(i+ys.length<=k/\xs[k-ys.length]? =ab y):=by
 unfold Pu.pr at hk;have hl:(xs.take i).length=i:=by simp;omega
 by_cases h1:k<i
 ·rw[bR,cS (by omega),dj,br h1]at hk;exact .inl ⟨h1,hk⟩
 ·by_cases h2:k<i+ys.length
  ·rw[bR,cm (by omega),hl,cS (by omega)]at hk;exact .inr (.inl ⟨by omega,h2,hk⟩)
  ·rw[cm (by simp;omega),c7]at hk;refine .inr (.inr ⟨by omega, ?_⟩);rw[<-hk];congr 1;simp;omega
theorem lQ{P:b9}{t:au}{d:TypeDesc}(h:P.underlying t=ab d)(hb:oj d=ae)(w:bf):(Go.isAgg t).run P w= .ok ah w:=by simp only[Go.isAgg,bJ,run_underlying h,ba];cases d<;>simp_all [oj]
theorem Gb{P:b9}{T:Tab}(hE:dv P T){t:au}{ti:TI}(h:T.ty t=ab ti)(w:bf):(sizeOf t).run P w= .ok ti.ks.length w:=by obtain⟨inf,hi,hs,_⟩:=hE.info t ti h;simp only[sizeOf,typeInfo,program,bJ,kj,ba,hi,hs,bV]
section
variable {P:b9} {ρ:Ren} {nm:String} {T:Tab}
theorem ze{e:au}{te:TI}(he:T.ty e=ab te)(hρ:ρ.t 9=e)(hp:plain te.ks=ae)(hE:dv P T)(l:L P ρ nm te.ks.length)
  (G_:∀args w,(callFunc (ρ.f 29) args).run P w=((eZ #[ρ.t 24,ρ.t 24] #[ρ.t 4] args).run P w).andThen λv w'=> .ok (.value v) w')
  (hfn:∃fn,P.funcs[ρ.f 22]? =ab fn/\fn.body.isSome=ae/\(fn.name== "runtime.NumGoroutine")=ah):jf P T (ρ.f 22) (si e te.bytes):=by
 have wS:D9 te.ks=true:=aZ.2 λk hk=>by have:=aZ.1 hp k hk;cases k<;>simp_all
 obtain⟨inf,hi,eM,SN,iP,hzz⟩:=hE.info e te he;obtain⟨z,hz,UL,_⟩:=hzz wS;have Ii:z.cells.size=te.ks.length:=by rw[UL];simp
 intro args r h w c1 vs bI hs hv;refine⟨hfn, ?_⟩
 unfold si at h;split at h
 ·rename_i e1 xs i e2 ys;cases hb:(a_ e1 e&&a_ e2 e)with
  |false=>rw[hb]at h;cases h
  |true=>
   rw[hb,aw]at h;simp only[az]at hb;have:=aJ hb.1;subst this;have:=aJ hb.2;subst this;have h:=aq h;obtain⟨hc,rfl⟩:=bn h;simp only[az,a9,cX]at hc;obtain⟨⟨c0,c2⟩,c3,c4⟩:=hc;obtain⟨v0,g0,s0⟩:=hv 0 _ rfl;obtain⟨v1,g1,s1⟩:=hv 1 _ rfl;obtain⟨v2,g2,s2⟩:=hv 2 _ rfl;have Kd:vs= #[v0,v1,v2]:=by
    have h3:vs.size=3:=hs;apply Array.ext_getElem?;intro k;match k with
    |0=>rw[g0];rfl
    |1=>rw[g1];rfl
    |2=>rw[g2];rfl
    |k+3=>rw[A_ (by omega),A_ (by simp)]
   subst Kd;have s0:v0=jj (c1.P (c9 0 0)):=s0;have s1:v1= .int .i64 i:=s1;have s2:ch T w c1.K v2 (.l e2 ys):=s2;subst s0;subst s1;have j4:inj [.v ah [.ow e2 ae xs], .v ah [.i .i64 i], .v ah [.sh e2 ys]] (cf (c9 0 0))= .o (.row e2 ae xs):=rfl;obtain⟨⟨ti,ht,Av,jR⟩,eI,B3⟩:=bI.obj _ _ j4;have hti:ti=te:=aq (ht.symm.trans he);subst hti;generalize hpd:c1.P (c9 0 0)=p at eI Av;have pre:Pre w p:=⟨λh=>by have:=eI.nil h;exact⟨by rw[eI.n,this.1];rfl,this.2⟩,λh=>by obtain⟨vals,q1,q2,q3,q4,_⟩:=eI.mem h;exact⟨vals,q1,q2,q3,q4⟩⟩
   obtain⟨n,rfl⟩:∃n:au,i=(n:ax):=⟨i.toNat,by omega⟩
   have hnx:n<=xs.length:=by omega
   have ym:=ud (E:=ofTab T) he s2;have B_:∀y∈ys,y.length=ti.ks.length:=λy hy=>by rw[<-ym.2 y hy];simp
   have NP:∀y∈xs,y.length=ti.ks.length:=λy hy=>by rw[<-jR y hy];simp
   obtain⟨B,vc,news,FN,n1,n2,n3⟩:=ym.1.list B_;have cellOf:∀k,k<ys.length*ti.ks.length->∃y x,ys[k/ti.ks.length]? =ab y/\y[k%ti.ks.length]? =ab x/\k/ti.ks.length*ti.ks.length+k%ti.ks.length=k:=by
    intro k hk;have h1:k/ti.ks.length<ys.length:=by rw[sV iP];exact hk
    have h2:k%ti.ks.length<ys[k/ti.ks.length].length:=by rw[B_ _ (bk h1)];exact xS _ iP
    refine⟨_,_,dV h1,dV h2, ?_⟩
    have:=CX k ti.ks.length;rw[yH]at this;exact this
   have sd:∀v∈news,v.oneCell'=true:=λv hv=>by
    obtain⟨k,hk⟩:=bB hv;have DT:k<ys.length*ti.ks.length:=by rw[<-n1];exact(aG.1 hk).1
    obtain⟨y,x,q1,q2,q3⟩:=cellOf k DT;obtain⟨u,hu,hr⟩:=n3 _ _ _ _ q1 q2;rw[q3,hk]at hu;cases hu;exact ch.one (E:=ofTab T) hr
   have hKne:∀b,c1.K b->p.nil=ah->b≠p.blk:=λb hk hn he=>by exact bI.kk _ _ p.blk j4 (.inl ⟨by rw[hpd];exact hn,by rw[hpd]⟩) (he▸hk)
   have hB:ys.length=0\/∃b2 o2,B=ab (ad b2 o2)/\(p.nil=ah->b2≠p.blk)/\∀j u,news[j]? =ab u->w.cell? (ad b2 (o2+j))=ab u:=by
    rcases n2 with rfl|⟨b2,o2,rfl,hc2⟩
    ·exact .inl rfl
    ·by_cases h0:ys=[]
     ·subst h0;exact .inl rfl
     ·refine .inr ⟨b2,o2,rfl,λhn=> ?_,hc2⟩;exact hKne _ (holdsK s2 h0 FN) hn
   have xrel:∀(k:au) (y:ak CV) (j:au) (x:CV),p.nil=ah->xs[k]? =ab y->y[j]? =ab x->∃u,w.cell? (ad p.blk (p.off+k*p.sz+j))=ab u/\Sc u x:=by intro k y j x hn hk hj;obtain⟨vals,q1,q2,q3,q4,q5⟩:=eI.mem hn;obtain⟨u,hu,hr⟩:=q5 k y j x hk hj;rw[br rfl]at hr;exact⟨u,by rw[q1.cell];exact hu,qi (E:=ofTab T) hr (fy hp (jR y (aD hk)) hj)⟩
   have hone2:∀vals k v,p.nil=ah->k8 w p.blk vals->k<p.n*p.sz->vals[p.off+k]? =ab v->v.oneCell'=true:=by
    intro vals k v hn VV hk Zg;rw[Av]at hk;have h1:k/ti.ks.length<xs.length:=by rw[sV iP,<-eI.n];exact hk
    have h2:k%ti.ks.length<xs[k/ti.ks.length].length:=by rw[NP _ (bk h1)];exact xS _ iP
    obtain⟨u,hu,Td⟩:=xrel _ _ _ _ hn (dV h1) (dV h2);have:=CX k ti.ks.length;rw[yH]at this;rw[Av,show p.off+k/ti.ks.length*ti.ks.length+k%ti.ks.length=p.off+k by omega,VV.cell,Zg]at hu;cases hu;rw[Td.1];exact CK
   rw[FN];obtain⟨p',w',hI,hcal⟩:=insert_run (P:=P) (sz:=ti.ks.length) l (by rw[hρ];exact hi) hz Ii eM iP G_ Av pre (i:=n) (m:=ys.length) (vc:=vc) (by rw[eI.n];exact hnx) n1 hB sd (by rw[eI.n,SN];exact c3) (by rw[eI.n];exact c4) (λvals k v h1 h2 h3 h4=>hone2 vals k v h1 h2 (by rw[Av];exact h3) h4);refine hcal.mono ?_;intro e1 w2 hh;rw[hh.1,hh.2];show IQ T _ _ c1 w (jj p') w';rw[gY];generalize hzd:Pu.pr xs n ys=zs;have DZ:zs.length=xs.length+ys.length:=by rw[<-hzd];unfold Pu.pr;simp;omega
   have hzg:∀(k:au) (y:ak CV),zs[k]? =ab y->(k<n/\xs[k]? =ab y)\/(n<=k/\k<n+ys.length/\ys[k-n]? =ab y)\/(n+ys.length<=k/\xs[k-ys.length]? =ab y):=λk y hk=>insR_get hnx k y (by rw[hzd];exact hk);have hzsh:∀y∈zs,y.map CV.kd=ti.ks:=λy hy=>by
    obtain⟨k,hk⟩:=bB hy;rcases hzg k y hk with ⟨_,h⟩|⟨_,_,h⟩|⟨_,h⟩
    ·exact jR y (aD h)
    ·exact ym.2 y (aD h)
    ·exact jR y (aD h)
   have hzp:∀(k:au) (y:ak CV) (j:au) (x:CV),zs[k]? =ab y->y[j]? =ab x->p_ x=false:=λk y j x hk hj=>fy hp (hzsh y (aD hk)) hj;let c3:dJ:=⟨λm=>if m=c9 500 0 then p' else c1.P m,λm=>if m=c9 500 0 then(λ_ _=>⟨ae,0,0,0,0,0⟩)else c1.G m,c1.K⟩
   have hP3:c3.P (c9 500 0)=p':=by simp[c3]
   have hG3:c3.G (c9 500 0)=λ_ _=>⟨ae,0,0,0,0,0⟩:=by simp[c3]
   have hO:∀m o,lC [.v ah [.ow e2 ae xs], .v ah [.i .i64 n], .v ah [.sh e2 ys]] ⟨[.v ah [.ow e2 ae zs]],[]⟩ (cf m)= .o o->m=c9 500 0/\o= .row e2 ae zs:=by intro m o ho;have hm:=kY ho (by simp);simp[Ek,Ee,qD,po,zd,xt,pD]at hm;exact⟨ic hm.1,hm.2⟩
   have hX:lC [.v ah [.ow e2 ae xs], .v ah [.i .i64 n], .v ah [.sh e2 ys]] ⟨[.v ah [.ow e2 ae zs]],[]⟩ (cf (c9 500 0))= .o (.row e2 ae zs):=rfl;have w_:∀i j,¬eK zs i j:=by rintro i j ⟨y,x,h1,h2,h3⟩;rw[hzp i y j x h1 h2]at h3;cases h3
   have noInnX:∀i j,¬eK xs i j:=by rintro i j ⟨y,x,h1,h2,h3⟩;rw[fy hp (jR y (aD h1)) h2]at h3;cases h3
   have B0:∀b,ea c3 (c9 500 0) (.row e2 ae zs) b->p'.nil=ah/\b=p'.blk:=by
    rintro b (⟨h1,h2⟩|⟨_,i,j,h,_⟩)
    ·rw[hP3]at h1 h2;exact⟨h1,h2⟩
    ·exact bS h (w_ i j)
   have hOwn1:p.nil=ah->rI (inj [.v ah [.ow e2 ae xs], .v ah [.i .i64 n], .v ah [.sh e2 ys]]) c1 p.blk:=λhn=>⟨_,_,j4, .inl ⟨by rw[hpd];exact hn,by rw[hpd]⟩⟩
   have tN:p'.nil=ah->p'.blk=w.heap.size\/rI (inj [.v ah [.ow e2 ae xs], .v ah [.i .i64 n], .v ah [.sh e2 ys]]) c1 p'.blk:=λhn=>by
    rcases hI.blk hn with ⟨q1,q2⟩|q
    ·rw[q2];exact .inr (hOwn1 q1)
    ·exact .inl q
   have hKp:∀b,c1.K b->¬(p'.nil=ah/\b=p'.blk):=by
    rintro b hk ⟨hn,rfl⟩;rcases tN hn with h|h
    ·have:=bI.lt _ hk;omega
    ·exact bI.Cq h hk
   refine⟨c3,⟨?_, ?_, ?_, ?_, ?_⟩,⟨hI.os,hI.tape,hI.output,hI.size,λb hb=>hb, ?_, ?_,λb hb=> .inl hb⟩, ?_, ?_⟩
   ·intro m o ho;obtain⟨rfl,rfl⟩:=hO m o ho;refine⟨⟨ti,he,by rw[hP3,hI.sz,Av],hzsh⟩, ?_,λ_=>⟨λi j h=>bS h (w_ i j),λi j i' j' h=>bS h (w_ i j)⟩⟩
    rw[hP3];refine⟨by rw[hI.n,eI.n,DZ],λhn=> ?_,λhn=> ?_⟩
    ·obtain⟨q1,q2,q3⟩:=hI.nil hn;rw[eI.n]at q2;exact⟨eH (by omega),q1⟩
    ·obtain⟨gh,q1,q2,q3,q4,q5,q6,q7⟩:=hI.mem hn;refine⟨gh,q1,q2,q3,q4,λk y j x hk hj=> ?_⟩
     simp only[if_true];have hnl:=hzp k y j x hk hj;have jc:j<ti.ks.length:=by rw[<-hzsh y (aD hk),bC];exact(aG.1 hj).1
     have fin:∀u:aR,Sc u x->gh[p'.off+k*p'.sz+j]? =ab u->∃u:aR,gh[p'.off+k*p'.sz+j]? =ab u/\XC T w' (c3.G (c9 500 0)) k j u x:=λu h1 h2=>⟨u,h2,qg (E:=ofTab T) hnl h1⟩
     have pnil:∀(k:au) (y:ak CV),xs[k]? =ab y->p.nil=false:=λk y h=>by
      cases hq:p.nil with
      |false=>rfl
      |true=>have hx:=(eI.nil hq).1;subst hx;cases h
     rw[hI.sz]at fin⊢;rcases hzg k y hk with ⟨r1,r2⟩|⟨r1,r2,r3⟩|⟨r1,r2⟩
     ·obtain⟨u,hu,Td⟩:=xrel k y j x (pnil k y r2) r2 hj;have hb1:k*p.sz+j<n*p.sz:=by have:=bD p.sz (show k+1<=n from r1);rw[cB]at this;rw[Av]at this⊢;omega
      refine fin u Td ?_;rw[ju];exact q5 _ u hb1 (by rw[<-ju];exact hu)
     ·obtain⟨u,hu,hr⟩:=n3 (k-n) y j x r3 hj;have hb1:(k-n)*p.sz+j<ys.length*p.sz:=by have:=bD p.sz (show k-n+1<=ys.length by omega);rw[cB]at this;rw[Av]at this⊢;omega
      refine fin u (mi (E:=ofTab T) hr hnl) ?_;have:=q6 _ hb1;rw[Av]at this⊢;rw[hu,<-ju,qy]at this;have S7:n*ti.ks.length<=k*ti.ks.length:=bD _ r1;rw[<-this];congr 1;omega
     ·obtain⟨u,hu,Td⟩:=xrel (k-ys.length) y j x (pnil _ y r2) r2 hj;have hkx:k-ys.length<xs.length:=(aG.1 r2).1;have hb1:(k-(n+ys.length))*p.sz+j<(p.n-n)*p.sz:=by have:=bD p.sz (show k-(n+ys.length)+1<=p.n-n by rw[eI.n];omega);rw[cB]at this;rw[Av]at this⊢;omega
      refine fin u Td ?_;have:=q7 _ u hb1;rw[Av]at this hu⊢;have m1:(n+ys.length)*ti.ks.length<=k*ti.ks.length:=bD _ r1;have e1:(k-(n+ys.length))*ti.ks.length=k*ti.ks.length-(n+ys.length)*ti.ks.length:=qy _ _ _;have e2:(k-ys.length)*ti.ks.length=k*ti.ks.length-ys.length*ti.ks.length:=qy _ _ _;have e3:(n+ys.length)*ti.ks.length=n*ti.ks.length+ys.length*ti.ks.length:=cB _ _ _;rw[e1]at this;rw[e2]at hu;have:=this (by rw[<-hu];congr 2;omega);rw[<-this];congr 1;omega
   ·intro m o m' o' b h1 h2 _ _;obtain⟨rfl,_⟩:=hO m o h1;obtain⟨rfl,_⟩:=hO m' o' h2;rfl
   ·intro m o b h1 h2 h3;obtain⟨rfl,rfl⟩:=hO m o h1;exact hKp b h3 (B0 b h2)
   ·intro b hb;exact gF (bI.lt b hb) hI.size
   ·intro m bs h1;obtain⟨_,h2⟩:=hO m _ h1;cases h2
   ·intro b hb DU;refine hI.old b hb (λhn he=> ?_);subst he;rcases tN hn with h|h
    ·omega
    ·exact DU h
   ·rintro b ⟨m,o,h1,h2⟩;obtain⟨rfl,rfl⟩:=hO m o h1;obtain⟨q1,rfl⟩:=B0 b h2;rcases tN q1 with h|h
    ·exact .inr (by omega)
    ·exact .inl h
   ·intro m hm;have:m≠c9 500 0:=by rintro rfl;apply hm;rfl
    exact⟨bF this,bF this⟩
   ·show m9 T w' c3 ah [.own (c9 500 0)] (jj p');show jj p'=jj (c3.P (c9 500 0));rw[hP3]
 ·cases h
end
end Go.FG.Ins

