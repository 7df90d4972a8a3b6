/- What the functions come to, in plain numbers, texts and lists; last the law itself. No condition but those that each states. -/
import Derived.Test.YtjejmgffiilmlaaGreatPOnce
set_option linter.unusedVariables false
set_option linter.unusedSimpArgs false
set_option maxRecDepth 100000
open Array renaming toList_extract->g_,toList_append->ui,length_toList->dN
open BitVec renaming toNat->dR,xor->lG,ofInt->b_,and->i_
open Bool renaming false->aq,true->ak,or_eq_true->dH,and_eq_true->aK,or_eq_false_iff->ij,and_self->aP,not_eq_true'->dG,true_and->bj,not_false->bX,not_true->ba,and_assoc->mY,and_true->pc,not_eq_false'->mb,false_or->nK,true_or->y_,false_eq_true->dp,cond_eq_ite->c_,false_and->pD
open ByteArray renaming toList->aL,data_extract->fY,data_append->lO,size_extract->wz,size_append->dC,empty_append->oX,append_assoc->BR,empty->FL,append_empty->pT,size->c5
open Classical renaming byContradiction->za
open Go.ByteArray renaming toList_eq->jV
open Go.IntKind renaming i64->ar,wrap->bK,u32->eh,u8->bk
open Go.Op renaming bytesLess->cf
open Int renaming neg->Mw,toNat->bc,tmod->cG,tdiv->cT,tmod_eq_emod_of_nonneg->rV,tdiv_eq_ediv_of_nonneg->gE,pow_succ->tF,toNat_natCast->dA,natCast_zero->TA,tmod_nonneg->Ud,tdiv_nonneg->Uc,le_trans->yF,tdiv_le_self->TB,emod_nonneg->Ua,emod_lt_of_pos->NT
open List renaming length_singleton->bw,length->bW,set->aE,length_map->bQ,length_filter_le->eK,nil_append->gk,length_append->bP,map_congr_left->vi,mem_filter->du,append_assoc->cj,pairwise_append->tG,filter_sublist->js,singleton_append->tH,pairwise_cons->p9,mem_append->a_,mem_singleton->aZ,filter_cons_of_pos->dx,filter_cons_of_neg->cm,length_cons->c7,beq->dg,take_succ_eq_append_getElem->c8,filter_append->iP,all_eq_true->bn,getElem_mem->bD,mem_or_eq_of_mem_set->gV,take_set_of_le->uC,drop_set_of_lt->uz,drop_eq_nil_of_le->iB,append_nil->dn,take_length->fH,filter_eq_self->eN,getElem_of_mem->da,take->jb,drop->pe,drop_zero->fB,take_append_of_le_length->nS,take_of_length_le->iK,getElem_take->my,pairwise_map->jY,mem_map->cJ,filter_map->nR,map_map->jW,map_append->dm,filter_congr->pV,range->cO,getD->jt,pairwise_iff_getElem->dv,length_set->cw,length_drop->ia,drop_eq_getElem_cons->dJ,cons_append->Al,extract_eq_take_drop->gP,drop_drop->uw,length_take->eu,drop_append_of_le_length->zx,drop_of_length_le->Gi,find?_eq_none->p8,find?_eq_some_iff_getElem->Am,takeWhile_cons_of_pos->pI,takeWhile_cons_of_neg->pH,filter_eq_nil_iff->Iw,filter_filter->Mx,foldl_append->pW,foldl_cons->B_,length_nil->ju,drop_length->dq,foldl_nil->Uf,mem_of_find?_eq_some->FO,length_pos_iff->KD,getD_eq_getElem?_getD->cL,getElem?_eq_getElem->eI,ext_getElem->kX,getElem_set_self->j5,set_getElem_self->eZ,set_set->o0,nodup_iff_pairwise_ne->oZ,mem_cons_self->dy,mem_append_left->bO,length_tail->zb,mem_append_right->bI,any_eq_false->Ak,findIdx?_eq_none_iff->pG,findIdx?_eq_some_iff_getElem->mg,pairwise_singleton->FP,find?_cons_of_neg->Ix,mem_range->oY,nodup_append->ea,nodup_cons->j6,mem_cons->cz,getElem_set->PF,getElem_append_left->DW,getElem_append_right->FN
open List.Pairwise renaming nil->gJ
open List.cons renaming inj->l_
open Nat renaming lt_irrefl->bu,le_refl->cu,zero_le->bL,sub_zero->uD,zero_add->bT,le_succ->jc,sub_self->wQ,le_trans->db,le_succ_of_le->mE,add_sub_cancel->NV,lt_or_ge->qt
open Option renaming some->aj,none->ao,map_some->iS
open Option.some renaming inj->aF
open Prod.mk renaming inj->bU
open UInt8 renaming lt_iff_toNat_lt->rP,ofNat->ax,toNat_ofNat'->KV
open _root_ renaming List->aA,UInt8->FR,decide_eq_true_eq->bf,absurd->cq,decide_eq_false_iff_not->gM,ByteArray->au,Int->az,Bool->aY,Nat->aG,decide_true->aR,cond_true->ay,cond_false->aD,decide_false->bm,Option->aC,decide_eq_false->aM,decide_eq_true->aJ,if_pos->bC,if_neg->bM,congrArg->mi,decide_eq_decide->ch,of_decide_eq_true->b9,eq_comm->GV,of_decide_eq_false->lr
namespace Go.FG
open Lib (EA all_congr jU oE Ay r_ uN fg zH eU gO oH oI Df Le vL ml s_ cU lu rc0 rc1 rc2 rc3 rc4 rc5 rc6 eR JU Zm Zn gq dU dL Oa Ij gA TT eJ o9 lx BF wj ot zY H2 nI BM wm qo qp sM n_ dh Ki Te Tf Tg Th Ti Tj wd0 wd1 wd2 qw tV tW tX H6 F8 W2 yz TU TV)
variable {R:Type}
namespace fL
theorem oi:∀x:aA FR,cf x x=aq
 |[]=>rfl
 |a::x=>by
  have h:¬a<a:=by rw[rP];omega
  simp[cf,oi x,h]
theorem qf:∀x y z:aA FR,cf x y=ak->cf y z=ak->cf x z=ak
 |_,[],_,h,_=>by cases ‹aA FR›<;>simp[cf]at h
 |_,_::_,[],_,h=>by simp[cf]at h
 |[],_::_,_::_,_,_=>by simp[cf]
 |a::x,b::y,c::z,h1,h2=>by
  simp only[cf,dH,aK,bf,beq_iff_eq]at h1 h2⊢;simp only[rP]at h1 h2⊢;rcases h1 with h1|⟨rfl,h1⟩
  ·rcases h2 with h2|⟨rfl,h2⟩
   ·left;omega
   ·left;exact h1
  ·rcases h2 with h2|⟨rfl,h2⟩
   ·left;exact h2
   ·right;exact⟨rfl,qf x y z h1 h2⟩
theorem P3:∀x y:aA FR,cf x y=aq->x≠y->cf y x=ak
 |[],[],_,h=>cq rfl h
 |[],_::_,h,_=>by simp[cf]at h
 |_::_,[],_,_=>by simp[cf]
 |a::x,b::y,h,hn=>by
  simp only[cf,ij,Bool.and_eq_false_iff,gM,beq_eq_false_iff_ne]at h;simp only[cf,dH,aK,bf,beq_iff_eq];obtain⟨h1,h2⟩:=h;by_cases he:a=b
  ·subst he;right;refine⟨rfl,P3 x y ?_ (λe=>hn (by rw[e]))⟩
   rcases h2 with h2|h2
   ·exact cq rfl h2
   ·exact h2
  ·left;rw[rP]at h1⊢;have:a.toNat≠b.toNat:=λe=>he (UInt8.toNat_inj.1 e);omega
def key(y:aA CV):aA FR:=aL (bH (y.getD 0 (.b aq)))
def lt(y z:aA CV):Prop:=cf (key y) (key z)=ak
def cr(y:aA CV):aA CV:=[CV.s (bH (y.getD 0 (.b aq))),CV.i ar (bY (y.getD 1 (.b aq))),CV.i ar (bY (y.getD 2 (.b aq))),CV.s (bH (y.getD 3 (.b aq)))]
def nw(k:au)(s l:az)(b:au):aA CV:=[CV.s k,CV.i ar s,CV.i ar l,CV.s b]
def pl(k:au)(y:aA CV):aY:=cf (key y) (aL k)
def pg(k:au)(y:aA CV):aY:= !(cf (key y) (aL k)||List.beq (key y) (aL k))
def val(r:aW)(k:au)(s l:az)(b:au):aW:=(r.filter (pl k)).map cr++[nw k s l b]++(r.filter (pg k)).map cr
theorem ok(r:aW)(k:au)(s l:az)(b0:au)(hl:r.length<=1048576):c r k s l b0=ak/\v r k s l b0=val r k s l b0:=by
 refine out r k s l b0 ?_;unfold vo;have hw:∀i,i<r.length->bN ((i:az)+1)=((i+1:aG):az):=λi h=>Lib.de h (by omega)
 have ao6:=λ(aew:aW) (ha:aew.length<=2000000)=>vL (pg k) cr r 2000000
  (λm (i:aG) (acc:aW)=>l9 Lib.c9 (λ(_:aW) (_:az) (_:au) (_ _:az) (_:au) (Gb:aW)=>aj Gb) m r (i:az) k s l b0 acc) (λacc=>aj acc)
  (λm i acc h h2 hp=>by
   have mB:(!(cf (aL (bH (aw r i 0))) (aL k)||List.beq (aL (bH (aw r i 0))) (aL k)))=true:=by rw[Lib.cY h];exact hp
   simp only[l9,r9,Lib.dE,h,aR,Lib.cS,aP,ay,Lib.eG,mB,hw i h,Lib.jM,bw,Lib.cy (n:=acc.length+1) (b:=48) (by omega) (by omega)];have e:[CV.s (bH (aw r i 0)),CV.i ar (bY (aw r i 1)),CV.i ar (bY (aw r i (1+1))),CV.s (bH (aw r i (1+1+1)))]=cr r[i]:=by rw[Lib.cY h,Lib.cY h,Lib.cY h,Lib.cY h];rfl
   rw[e])
  (λm i acc h h2 hp=>by
   have mB:(!(cf (aL (bH (aw r i 0))) (aL k)||List.beq (aL (bH (aw r i 0))) (aL k)))=false:=by rw[Lib.cY h];exact hp
   simp only[l9,r9,Lib.dE,h,aR,Lib.cS,aP,ay,Lib.eG,mB,aD,hw i h])
  (λm acc=>by simp only[l9,r9,Lib.dE,bu,bm,aD]) Lib.c9 aew ha (cU (by omega))
 have gz:=vL (pl k) cr r 0
  (λm (i:aG) (acc:aW)=>l3 Lib.c9 (λ(y7:aW) (_:az) (y9:au) (Mm yA:az) (Oc:au) (F9:aW)=>bif(cK (bW F9+bW (aE (aT [Ck.s,Ck.i ar,Ck.i ar,Ck.s] 1) 0 [CV.s y9,CV.i ar Mm,CV.i ar yA,CV.s Oc])) 48)then(l9 Lib.c9 (λ(_:aW) (_:az) (_:au) (_ _:az) (_:au) (Gb:aW)=>aj Gb) Lib.c9 y7 0 y9 Mm yA Oc (F9++aE (aT [Ck.s,Ck.i ar,Ck.i ar,Ck.s] 1) 0 [CV.s y9,CV.i ar Mm,CV.i ar yA,CV.s Oc]))else(ao)) m r (i:az) k s l b0 acc)
  (λacc=>bif(cK (bW acc+1) 48)then(l9 Lib.c9 (λ(_:aW) (_:az) (_:au) (_ _:az) (_:au) (Gb:aW)=>aj Gb) Lib.c9 r 0 k s l b0 (acc++[nw k s l b0]))else ao)
  (λm i acc h h2 hp=>by
   have mB:cf (aL (bH (aw r i 0))) (aL k)=true:=by rw[Lib.cY h];exact hp
   simp only[l3,r3,Lib.dE,h,aR,Lib.cS,aP,ay,Lib.eG,mB,hw i h,Lib.jM,bw,Lib.cy (n:=acc.length+1) (b:=48) (by omega) (by omega)];have e:[CV.s (bH (aw r i 0)),CV.i ar (bY (aw r i 1)),CV.i ar (bY (aw r i (1+1))),CV.s (bH (aw r i (1+1+1)))]=cr r[i]:=by rw[Lib.cY h,Lib.cY h,Lib.cY h,Lib.cY h];rfl
   rw[e])
  (λm i acc h h2 hp=>by
   have mB:cf (aL (bH (aw r i 0))) (aL k)=false:=by rw[Lib.cY h];exact hp
   simp only[l3,r3,Lib.dE,h,aR,Lib.cS,aP,ay,Lib.eG,mB,aD,hw i h])
  (λm acc=>by simp only[l3,r3,Lib.dE,bu,bm,aD];rfl) Lib.c9 [] (cu _) (cU (by omega))
 unfold b;refine gz.trans ?_;have hf:((r.filter (pl k)).map cr).length<=r.length:=by rw[bQ];exact eK _ _
 rw[gk,Lib.cy (by omega) (by omega),ay];exact ao6 _ (by rw[bP,bw];omega)
def Or(r:aW):Prop:=r.Pairwise lt/\∀y∈r,cr y=y
theorem E_{r:aW}(h:∀y∈r,cr y=y)(q:aA CV->aY):(r.filter q).map cr=r.filter q:=by have:=vi (l:=r.filter q) (f:=cr) (g:=λz=>z) (λy hy=>h y (du.1 hy).1);rw[this];exact List.map_id _
theorem vQ{r:aW}(h:Or r)(k:au)(s l:az)(b:au):Or (val r k s l b)/\(val r k s l b).length<=r.length+1:=by
 unfold val;rw[E_ h.2,E_ h.2];have hg:∀y,pg k y=ak->cf (aL k) (key y)=true:=by intro y hy;unfold pg at hy;simp only[dG,ij]at hy;refine P3 _ _ hy.1 (λe=> ?_);have:=hy.2;rw[e,Lib.qd]at this;cases this
 refine⟨⟨?_, ?_⟩, ?_⟩
 ·rw[cj,tG];refine⟨h.1.sublist js, ?_, ?_⟩
  ·rw[tH,p9];exact⟨λy hy=>hg y (du.1 hy).2,h.1.sublist js⟩
  ·intro y hy z hz;have h1:cf (key y) (aL k)=true:=(du.1 hy).2;rcases a_.1 hz with q|q
   ·rw[aZ.1 q];exact h1
   ·exact qf _ _ _ h1 (hg z (du.1 q).2)
 ·intro y hy;rcases a_.1 hy with q|q
  ·rcases a_.1 q with q|q
   ·exact h.2 y (du.1 q).1
   ·rw[aZ.1 q];rfl
  ·exact h.2 y (du.1 q).1
 ·have hlen:∀r:aW,(r.filter (pl k)).length+(r.filter (pg k)).length<=r.length:=by
   intro r;induction r with
   |nil=>exact cu _
   |cons y r ih=>
    have hx:pl k y=ak->pg k y=false:=by intro h;unfold pl at h;unfold pg;rw[h];rfl
    cases h1:pl k y with
    |true=>rw[dx h1,cm (by rw[hx h1];simp)];simp only[c7];omega
    |false=>
     rw[cm (by simp[h1])];cases h2:pg k y with
     |true=>rw[dx h2];simp only[c7];omega
     |false=>rw[cm (by simp[h2])];simp only[c7];omega
  have:=hlen r;simp only[bP,bw];omega
end fL

namespace rL
def p(s:aW)(k:au)(i:aG):aY:=dg (aL (bH (aw s i 0))) (aL k)
theorem ok(d:aW)(n:au)(hl:d.length<=4294967296):c d n=ak/\v d n=Lib.fi (p d n) d.length 0:=by
 refine out d n ?_;unfold vo b;refine oI (p d n) d.length (λm (i:aG)=>l2 Lib.c9 (λ(_:aW) (_:au) (y7 _ _:az)=>aj y7) (λ(_:aW) (_:au) (_ _ _:az)=>aj (-1)) m d n 0 (d.length:az) (i:az)) aj (λm i hi hp=> ?_) (λm i hi hp=> ?_) (λm=> ?_) Lib.c9 (cU (by omega))
 ·unfold p at hp;simp only[l2,r2,Lib.dE,Lib.cS,Lib.eG,hi,aR,aP,ay,zf.v,hp]
 ·unfold p at hp;simp only[l2,r2,Lib.dE,Lib.cS,Lib.eG,hi,aR,aP,ay,zf.v,hp,aD,Lib.de hi (by omega:d.length<=9223372036854775807)]
 ·simp only[l2,r2,Lib.dE,bu,bm,aD]
end rL

namespace oD
def cn(y:aA CV):aY:=match y with|[.s _, .i .i64 _, .i .i64 _, .s _]=>ak|_=>aq
def cr(y:aA CV):aA CV:=[CV.s (bH (y.getD 0 (.b aq))),CV.i ar (bY (y.getD 1 (.b aq))),CV.i ar (bY (y.getD 2 (.b aq))),CV.s (bH (y.getD 3 (.b aq)))]
theorem yK{y:aA CV}(h:cn y=ak):cr y=y:=by
 unfold cn at h;split at h
 ·rfl
 ·cases h
theorem oN{y:aA CV}(h:cn y=ak):y.length=4:=by rw[<-yK h];rfl
def keep(d:au)(y:aA CV):aY:= !List.beq (aL (bH (y.getD 0 (.b aq)))) (aL d)
theorem jy(d:au){s:aW}{i:aG}(h:i<s.length):(s.take (i+1)).filter (keep d)=(s.take i).filter (keep d)++(bif keep d s[i]then [s[i]]else []):=by rw[c8 h,iP];cases hk:keep d s[i]<;>simp[hk]
theorem run(N:aG)(s0:aW)(d:au)(hc:s0.all cn=ak)(hn:s0.length<=9223372036854775807)(K:au->az->az->aW->aC R)(kr:aW->aC R)
  (hK:∀(j:aG) x,x.length=s0.length->j<=s0.length->K d j s0.length x=kr (x.take j)) (m j i:aG) (x:aW)
  (hi:j<i/\i<=s0.length/\x.length=s0.length/\(∀y∈x,y.length=4)/\x.take j=(s0.take i).filter (keep d)/\x.drop i=s0.drop i) (hm:s0.length-i<m):
  l5 N K m d j i x=kr (s0.filter (keep d)):=by
 have Qu:∀y∈s0,cn y=true:=bn.1 hc
 refine Lib.il (λm (s:aG×aG×aW)=>l5 N K m d s.1 s.2.1 s.2.2) (λs=>s0.length-s.2.1)
  (λs=>s.1<s.2.1/\s.2.1<=s0.length/\s.2.2.length=s0.length/\(∀y∈s.2.2,y.length=4)/\s.2.2.take s.1=(s0.take s.2.1).filter (keep d)/\s.2.2.drop s.2.1=s0.drop s.2.1)
  (λ_=>kr (s0.filter (keep d))) (λm s hs=> ?_) m (j,i,x) hi hm
 obtain⟨j,i,x⟩:=s;obtain⟨h1,h2,h3,h4,h5,h6⟩:=hs;simp only at h1 h2 h3 h4 h5 h6⊢;by_cases gQ:i<s0.length
 ·right;have ru:i<x.length:=by omega
  have Lt:j<x.length:=by omega
  have hx:x[i]=s0[i]:=by have e1:=Lib.fm ru;have e2:=Lib.fm gQ;rw[h6,e2]at e1;exact(l_ e1).1.symm
  have hd:x.drop (i+1)=s0.drop (i+1):=by have e1:=Lib.fm ru;have e2:=Lib.fm gQ;rw[h6,e2]at e1;exact(l_ e1).2.symm
  have Qw:=Qu _ (bD gQ);have hf:=jy d gQ;cases hk:keep d s0[i]with
  |true=>
   refine⟨(j+1,i+1,x.set j s0[i]), ?_,by simp only;omega,trivial, ?_⟩
   ·rw[hk,ay,<-h5]at hf;refine⟨by simp only;omega,by simp only;omega,by simpa using h3, ?_, ?_, ?_⟩
    ·intro y hy;rcases gV hy with h|h
     ·exact h4 y h
     ·rw[h];exact oN Qw
    ·rw[hf];rw[c8 (by simpa using Lt)];simp[uC]
    ·simp only;rw[uz (by omega)];exact hd
   ·have e:zf.v (bH (aw x i 0)) (bY (aw x i 1)) (bY (aw x i (1+1))) (bH (aw x i (1+1+1))) d=false:=by
     have:(!zf.v (bH (aw x i 0)) (bY (aw x i 1)) (bY (aw x i (1+1))) (bH (aw x i (1+1+1))) d)=true:=by rw[Lib.cY ru,hx];exact hk
     simpa using this
    have es:eA x j 0 [CV.s (bH (aw x i 0)),CV.i ar (bY (aw x i 1)),CV.i ar (bY (aw x i (1+1))),CV.s (bH (aw x i (1+1+1)))]=x.set j s0[i]:=by
     have hl:=h4 _ (bD Lt);rw[Lib.Ft Lt,Lib.cY ru,Lib.cY ru,Lib.cY ru,Lib.cY ru,hx];have:iG x[j] 0 (cr s0[i])=s0[i]:=by rw[yK Qw];unfold iG;have:=oN Qw;simp[hl,this,iB]
     unfold cr at this;rw[this]
    have b1:(j:az)<(x.length:az):=by omega
    simp only[l5,r5,Lib.dE,Lib.cS,Lib.eG,ru,Lt,aR,bj,ay,e,bX,es,Lib.de gQ hn,Lib.de (show j<s0.length by omega) hn]
  |false=>
   refine⟨(j,i+1,x), ?_,by simp only;omega,trivial, ?_⟩
   ·rw[hk,aD,dn,<-h5]at hf;exact⟨by simp only;omega,by simp only;omega,h3,h4,hf.symm,hd⟩
   ·have e:zf.v (bH (aw x i 0)) (bY (aw x i 1)) (bY (aw x i (1+1))) (bH (aw x i (1+1+1))) d=true:=by
     have:(!zf.v (bH (aw x i 0)) (bY (aw x i 1)) (bY (aw x i (1+1))) (bH (aw x i (1+1+1))) d)=false:=by rw[Lib.cY ru,hx];exact hk
     simpa using this
    simp only[l5,r5,Lib.dE,Lib.cS,Lib.eG,ru,aR,bj,ay,e,ba,aD,Lib.de gQ hn]
 ·left;have:i=s0.length:=by omega
  subst this;rw[fH]at h5;have e:=hK j x h3 (by omega);rw[h5]at e;have ru:¬s0.length<x.length:=by omega
  simp only[l5,r5,Lib.dE,ru,bm,aD,e]
theorem ok(s0:aW)(j7:au)(hc:s0.all cn=ak)(hn:s0.length<=4294967296):c s0 j7=ak/\v s0 j7=s0.filter (keep j7):=by
 refine out s0 j7 ?_;have hv:=rL.ok s0 j7 hn;unfold vo b;rw[hv.1,hv.2,ay];rcases Lib.pP (rL.p s0 j7) s0.length 0 with ⟨h,n7⟩|⟨k,_,zp,hk,QA,Qt⟩
 ·rw[h];have:s0.filter (keep j7)=s0:=by rw[eN];intro y hy;obtain⟨i,hi,rfl⟩:=da hy;have:=n7 i (bL _) (by omega);unfold rL.p at this;rw[Lib.cY hi]at this;unfold keep;rw[this];rfl
  rw[this];rfl
 ·rw[hk];have Ig:k<s0.length:=by omega
  have ic:decide ((k:az)=Mw 1)=false:=aM (by show¬(k:az)= -1;omega);rw[ic,aD,Lib.de Ig (by omega)];have Qu:∀y∈s0,cn y=true:=bn.1 hc;refine run _ s0 j7 hc (by omega) _ aj (λj x hx hj=> ?_) _ k (k+1) s0 ⟨by omega,by omega,rfl,λy hy=>oN (Qu y hy), ?_,rfl⟩ (cU (by omega))
  ·have b1:iQ (j:az) (s0.length:az) (s0.length:az)=true:=by simp[iQ];omega
   have e:jb j x++aT [Ck.s,Ck.i ar,Ck.i ar,Ck.s] (s0.length-j)++pe s0.length x=jb j x++aT [Ck.s,Ck.i ar,Ck.i ar,Ck.s] (s0.length-j):=by rw[iB (by omega),dn]
   have hl:(jb j x).length=j:=by simp;omega
   simp only[hx,Lib.eG,b1,ay,e];rw[Lib.yI (by simp[iQ];omega)];unfold eT;rw[show bc 0=0 from rfl,fB,uD,nS (by omega),iK (by omega)]
  ·rw[jy j7 Ig];have e1:keep j7 s0[k]=false:=by unfold rL.p at QA;rw[Lib.cY Ig]at QA;unfold keep;rw[QA];rfl
   have e2:(s0.take k).filter (keep j7)=s0.take k:=by
    rw[eN];intro y hy;obtain⟨i,hi,rfl⟩:=da hy;have X3:i<k:=by simp at hi;omega
    have:=Qt i (bL _) X3;unfold rL.p at this;rw[Lib.cY (by omega)]at this;rw[my];unfold keep;rw[this];rfl
   rw[e1,e2,aD,dn]
end oD

namespace gG
open Lib (re En)
def fT(x y:au):aY:=cf (aL x) (aL y)
def So(en:aA En):Prop:=en.Pairwise λx y=>fT x.k y.k=ak
def fG(en:aA En)(k:au):aA En:=en.filter λx=> !decide (x.k=k)
def l8(en:aA En)(e:En):aA En:=en.filter (λx=>fT x.k e.k)++[e]++en.filter (λx=> !(fT x.k e.k||decide (x.k=e.k)))
theorem So.drop{en:aA En}(h:So en)(k:au):So (fG en k):=List.Pairwise.filter _ h
theorem vE(en:aA En)(k:au):(fG en k).length<=en.length:=eK ..
theorem drop_nil{en:aA En}(h:∀e∈en,1<=e.k.size):fG en ⟨#[]⟩=en:=by unfold fG;rw[eN];intro e he;have:=h e he;simp only[dG,gM];intro e2;rw[e2]at this;exact cq this (by decide)
theorem Bn{en:aA En}(h:So en):fL.Or (re en):=by
 constructor
 ·unfold Lib.re;rw[jY];exact h
 ·intro y hy;unfold Lib.re at hy;obtain⟨z,_,rfl⟩:=cJ.1 hy;rfl
theorem sH(en:aA En)(e:En):fL.val (re en) e.k e.st e.li e.bo=re (l8 en e):=by
 unfold fL.val l8 Lib.re;rw[nR,nR,jW,jW,dm,dm];have e1:(fL.pl e.k∘En.row)=λx:En=>fT x.k e.k:=rfl;have e2:(fL.pg e.k∘En.row)=λx:En=> !(fT x.k e.k||decide (x.k=e.k)):=by funext x;show(!(cf (aL x.k) (aL e.k)||List.beq (aL x.k) (aL e.k)))=_;rw[Lib.fE];rfl
 rw[e1,e2];rfl
theorem EJ(en:aA En)(k:au):(re en).filter (oD.keep k)=re (fG en k):=by unfold Lib.re fG;rw[nR];congr 1;apply pV;intro x _;show(!List.beq (aL x.k) (aL k))=_;rw[Lib.fE]
theorem Qa(en:aA En):(re en).all oD.cn=true:=by rw[bn];intro y hy;unfold Lib.re at hy;obtain⟨z,_,rfl⟩:=cJ.1 hy;rfl
theorem tn(en:aA En)(e:En)(h:So en):(l8 en e).length<=en.length+1:=by have:=(fL.vQ (Bn h) e.k e.st e.li e.bo).2;rw[sH,dU,dU]at this;exact this
end gG

namespace dF
def el(r:aW)(i:aG):aY:=decide (1<=((bH (aw r i 0)).size:az)/\((bH (aw r i 0)).size:az)<=8)&&(!decide (((bH (aw r i 1)).size:az)>20000)&&(decide (0<=bY (aw r i 2)/\bY (aw r i 2)<=((bH (aw r i 1)).size:az))&&(i==0||Go.Op.bytesLess (aL (bH (aw r (i-1) 0))) (aL (bH (aw r i 0))))))
def val(r:aW):aY:=decide (r.length<=30)&&(cO r.length).all (el r)
theorem mo(n a b:az):kG.v n a b=decide (a<=n/\n<=b):=by unfold kG.v;by_cases h:a<=n<;>by_cases h2:n<=b<;>simp[h,h2]
theorem BO{i:aG}(h:0<i)(hn:i<=9223372036854775807):bN ((i:az)-1)=((i-1:aG):az):=by rw[dh (by omega) (by omega)];omega
theorem ok(r:aW)(hl:r.length<=4294967296):c r=ak/\v r=val r:=by
 refine out r ?_;unfold vo b val;by_cases h30:(r.length:az)>30
 ·rw[aJ h30,ay,aM (show¬r.length<=30 by omega)];rfl
 rw[aM h30,aD,aJ (show r.length<=30 by omega),bj]
 have key:=jU (el r) r.length (λm (i:aG)=>l4 Lib.c9 (λ(y3:aY) (_:az) (_:aW)=>aj y3) (λ(_:aY) (_:az) (_:aW)=>aj ak) m aq (i:az) r) (aj aq) (aj ak)
  (λm i hi hp=>by
   unfold el at hp;simp only[aK]at hp;obtain⟨h1,h2,h3,h4⟩:=hp;have h3:decide (0<=bY (aw r i (1+1))/\bY (aw r i (1+1))<=((bH (aw r i 1)).size:az))=true:=h3;have h2:decide (((bH (aw r i 1)).size:az)>20000)=false:=by simpa using h2
   by_cases hz:0<i
   ·have e0:decide ((i:az)>0)=true:=aJ (by omega);have mB:i-1<r.length:=by omega
    have h5:cf (aL (bH (aw r (i-1) 0))) (aL (bH (aw r i 0)))=true:=by
     rcases dH _ _▸h4 with q|q
     ·have:i=0:=by simpa using q
      omega
     ·exact q
    simp only[l4,r4,Lib.dE,hi,mB,aR,Lib.cS,aP,ay,aD,Lib.eG,pJ.v,mo,h1,h2,h3,h5,e0,BO hz (by omega),ba,Lib.de hi (by omega:r.length<=9223372036854775807)]
   ·have e0:decide ((i:az)>0)=false:=aM (by omega);simp only[l4,r4,Lib.dE,hi,aR,Lib.cS,aP,ay,aD,Lib.eG,pJ.v,mo,h1,h2,h3,e0,ba,Lib.de hi (by omega:r.length<=9223372036854775807)])
  (λm i hi hp=>by
   unfold el at hp;cases h1:decide (1<=((bH (aw r i 0)).size:az)/\((bH (aw r i 0)).size:az)<=8)with
   |false=>simp only[l4,r4,Lib.dE,hi,aR,Lib.cS,aP,ay,aD,Lib.eG,pJ.v,mo,h1,bX]
   |true=>
   cases h2:decide (((bH (aw r i 1)).size:az)>20000)with
   |true=>simp only[l4,r4,Lib.dE,hi,aR,Lib.cS,aP,ay,aD,Lib.eG,pJ.v,mo,h1,h2,ba]
   |false=>
   cases h3:decide (0<=bY (aw r i (1+1))/\bY (aw r i (1+1))<=((bH (aw r i 1)).size:az))with
   |false=>simp only[l4,r4,Lib.dE,hi,aR,Lib.cS,aP,ay,aD,Lib.eG,pJ.v,mo,h1,h2,h3,ba,bX]
   |true=>
   rw[h1,h2,show decide (0<=bY (aw r i 2)/\bY (aw r i 2)<=((bH (aw r i 1)).size:az))=ak from h3,bX,bj,bj,bj]at hp;rw[ij]at hp;obtain⟨h4,h5⟩:=hp;have hz:0<i:=by
    have:¬i=0:=by simpa using h4
    omega
   have e0:decide ((i:az)>0)=true:=aJ (by omega);have mB:i-1<r.length:=by omega
   simp only[l4,r4,Lib.dE,hi,mB,aR,Lib.cS,aP,ay,aD,Lib.eG,pJ.v,mo,h1,h2,h3,h5,e0,BO hz (by omega),ba,bX])
  (λm=>by simp only[l4,r4,Lib.dE,bu,bm,aD]) Lib.c9 (cU (by omega))
 refine key.trans ?_;cases (cO r.length).all (el r)<;>rfl
end dF

namespace pC
def cn(y:aA CV):aY:=match y with|[.s _, .s _, .i .i64 _]=>ak|_=>aq
def cr(y:aA CV):aA CV:=[CV.s (bH (y.getD 0 (.b aq))),CV.s (bH (y.getD 1 (.b aq))),CV.i ar (bY (y.getD 2 (.b aq)))]
def keep(d:au)(y:aA CV):aY:= !List.beq (aL (bH (y.getD 0 (.b aq)))) (aL d)
end pC

namespace eH
open Lib (rd el Fi)
def SoD(l:aA Fi):Prop:=l.Pairwise λx y=>gG.fT x.n y.n=ak
def without(l:aA Fi)(n:au):aA Fi:=l.filter λx=> !decide (x.n=n)
def put(l:aA Fi)(f:Fi):aA Fi:=l.filter (λx=>gG.fT x.n f.n)++[f]++l.filter (λx=> !(gG.fT x.n f.n||decide (x.n=f.n)))
def nr(f:Fi):aY:=decide (1<=(f.n.size:az)/\(f.n.size:az)<=8)&&(!decide ((f.t.size:az)>20000)&&decide (0<=f.kp/\f.kp<=(f.t.size:az)))
def uY(l:aA Fi):aY:=dF.val (rd l)
theorem irrefl(x:au):gG.fT x x=false:=fL.oi _
theorem kM{l:aA Fi}:uY l=ak↔l.length<=30/\(∀f∈l,nr f=ak)/\SoD l:=by
 unfold uY dF.val;rw[aK,bf,bn,gq];have e:∀i (h:i<l.length),dF.el (rd l) i=(nr l[i]&&(i==0||gG.fT (l.getD (i-1) default).n l[i].n)):=λi h=>by
  unfold dF.el nr gG.fT;rw[JU h,Zm h,show aw (rd l) i 2=CV.i ar l[i].kp from Zn h,JU (show i-1<l.length by omega)];have h5:l.getD (i-1) default=l[i-1]:=by simp[jt,show i-1<l.length by omega]
  rw[h5];simp only[bH,bY,mY];rfl
 constructor
 ·rintro ⟨h1,h2⟩;have h3:∀i (h:i<l.length),nr l[i]=ak/\(i=0\/gG.fT (l.getD (i-1) default).n l[i].n=ak):=λi h=>by have:=h2 i (by simpa using h);rw[e i h,aK,dH]at this;exact⟨this.1,this.2.imp (λq=>by simpa using q) id⟩
  refine⟨h1,λf hf=> ?_, ?_⟩
  ·obtain⟨i,hi,rfl⟩:=da hf;exact(h3 i hi).1
  ·have adj:∀d i (hi:i+d+1<l.length),gG.fT l[i].n l[i+d+1].n=true:=by
    intro d;induction d with
    |zero=>
     intro i hi;rcases(h3 (i+1) (by omega)).2 with q|q
     ·omega
     ·simpa [jt,show i<l.length by omega]using q
    |succ d ih=>
     intro i hi;have a:=ih i (by omega);rcases(h3 (i+d+1+1) (by omega)).2 with q|q
     ·omega
     ·have q:gG.fT l[i+d+1].n l[i+d+1+1].n=true:=by simpa [jt,show i+d+1<l.length by omega]using q
      exact fL.qf _ _ _ a q
   unfold SoD;rw[dv];intro i j hi hj M0;have:=adj (j-i-1) i (by omega);simpa only[show i+(j-i-1)+1=j by omega]using this
 ·rintro ⟨h1,h2,h3⟩;refine⟨h1,λi hi=> ?_⟩
  have hi:i<l.length:=by simpa using hi
  rw[e i hi,h2 _ (bD hi),bj,dH];by_cases hz:i=0
  ·left;simpa using hz
  ·right;have:=dv.1 h3 (i-1) i (by omega) hi (by omega);simpa [jt,show i-1<l.length by omega]using this
theorem acY(l:aA Fi)(n:au):(without l n).length<=l.length:=eK ..
theorem tn{l:aA Fi}(f:Fi):(put l f).length<=l.length+1:=by
 unfold put;have:∀r:aA Fi,(r.filter λx=>gG.fT x.n f.n).length+(r.filter λx=> !(gG.fT x.n f.n||decide (x.n=f.n))).length<=r.length:=by
  intro r;induction r with
  |nil=>exact cu _
  |cons y r ih=>
   cases h1:gG.fT y.n f.n with
   |true=>rw[dx (by simpa using h1),cm (by simp[h1])];simp only[c7];omega
   |false=>
    rw[cm (by simp[h1])];by_cases h2:y.n=f.n
    ·rw[cm (by simp[h2])];simp only[c7];omega
    ·rw[dx (by simp[h1,h2])];simp only[c7];omega
 have:=this l;simp only[bP,bw];omega
theorem mV{l:aA Fi}{x f:Fi}:x∈put l f↔x=f\/(x∈l/\x.n≠f.n):=by
 unfold put;simp only[a_,du,aZ,dG,ij,gM];constructor
 ·rintro ((⟨h1,h2⟩|rfl)|⟨h1,h2⟩)
  ·refine .inr ⟨h1,λe2=> ?_⟩;rw[e2,irrefl]at h2;cases h2
  ·exact .inl rfl
  ·exact .inr ⟨h1,h2.2⟩
 ·rintro (rfl|⟨h1,h2⟩)
  ·exact .inl (.inr rfl)
  ·cases hl:gG.fT x.n f.n with
   |true=>exact .inl (.inl ⟨h1,rfl⟩)
   |false=>exact .inr ⟨h1,rfl,h2⟩
def FY(l:aA Fi)(k:az)(n t o:au):aC (aA Fi):=
 match l.find? λx=>decide (x.n=n)with
 |some f=>
  if k=1 then aj (put l ⟨f.n,f.t++t,f.kp⟩)
  else if k=2 then aj (put l ⟨f.n,f.t,f.t.size⟩)
  else if k=3 then(if f.kp≠f.t.size\/o=n then ao else aj (put (without l n) ⟨o,f.t,f.kp⟩))
  else aj (without l n)
 |none=>if k=1 then aj (put l ⟨n,t,0⟩)else ao
def la(k:az)(t o:au):aY:=decide (1<=k/\k<=4)&&((decide (t=⟨#[]⟩)||decide (k=1))&&(decide (o=⟨#[]⟩)||decide (k=3)))
def act(l:aA Fi)(k:az)(n t o:au):aC (aA Fi):=
 bif uY l&&la k t o then(match FY l k n t o with|some d=>bif uY d then aj d else ao|none=>ao)else ao
structure Ac where
 k:az
 n:au
 t:au
 o:au
 deriving DecidableEq
instance:Inhabited Ac:=⟨⟨0,⟨#[]⟩,⟨#[]⟩,⟨#[]⟩⟩⟩
def Ac.row(e:Ac):aA CV:=[CV.i ar e.k,CV.s e.n,CV.s e.t,CV.s e.o]
def ra(l:aA Ac):aW:=l.map Ac.row
theorem Fo(l):(ra l).length=l.length:=by unfold ra;simp
theorem wa0{l:aA Ac}{i:aG}(h:i<l.length):aw (ra l) i 0=CV.i ar (el l i).k:=gO _ l i 0 h
theorem wa1{l:aA Ac}{i:aG}(h:i<l.length):aw (ra l) i 1=CV.s (el l i).n:=gO _ l i 1 h
theorem wa2{l:aA Ac}{i:aG}(h:i<l.length):aw (ra l) i (1+1)=CV.s (el l i).t:=gO _ l i 2 h
theorem wa3{l:aA Ac}{i:aG}(h:i<l.length):aw (ra l) i (1+1+1)=CV.s (el l i).o:=gO _ l i 3 h
def mA:aA Fi->aG->aA Ac->aA Fi×aG
 |l,i,[]=>(l,i)
 |l,i,a::r=>match act l a.k a.n a.t a.o with|some d=>mA d (i+1) r|none=>(l,i)
theorem KW{l d:aA Fi}{k:az}{n t o:au}(h:act l k n t o=aj d):uY d=ak/\d.length<=30:=by
 unfold act at h;cases hb:uY l&&la k t o with
 |false=>rw[hb]at h;cases h
 |true=>
  rw[hb,ay]at h;split at h
  ·rename_i e _;cases ho:uY e with
   |false=>rw[ho]at h;cases h
   |true=>rw[ho]at h;obtain rfl:=aF h;exact⟨ho,(kM.1 ho).1⟩
  ·cases h
end eH

namespace o7
theorem size(x:az):(v x).size=4:=by unfold v;rw[Lib.iy];simp only[cw,Lib.vS]
end o7

namespace jw
def rd(x:az):az:=bif decide (cG x 2=1)then(bK eh (↑(dR (lG (b_ 32 (bK eh (cT x 2))) (b_ 32 3558460437))):az))else(bK eh (cT x 2))
def mW:aG->az->az|0,x=>x|n+1,x=>mW n (rd x)
theorem in6(N:aG)(K:az->au->az->az->aC R)(a:au)(b:az):∀(d n i:aG) (x:az),d+i=8->d<n->l6 N K n x a b (i:az)=K (mW d x) a b 8:=by
 intro d;induction d with
 |zero=>
  intro n i x h1 h2;obtain⟨n,rfl⟩:∃m,n=m+1:=⟨n-1,by omega⟩
  have:i=8:=by omega
  subst this;rfl
 |succ d ih=>
  intro n i x h1 h2;obtain⟨n,rfl⟩:∃m,n=m+1:=⟨n-1,by omega⟩
  have lK:bN ((i:az)+1)=((i+1:aG):az):=dh (by omega) (by omega);rw[mW,<-ih n (i+1) (rd x) (by omega) (by omega)];simp only[l6,r6,aJ (show(i:az)<8 by omega),ay,lK,rd];cases decide (cG x 2=1)<;>rfl
def su(t:au):aG->aG->az->az
 |0,_,s=>s
 |d+1,i,s=>su t d (i+1) (mW 8 (bK eh (↑(dR (lG (b_ 32 s) (b_ 32 (bK eh (↑(iI t i):az))))):az)))
theorem run(s:az)(t:au)(ht:t.size<=4611686018427387904):vo s t=aj (su t t.size 0 s):=by
 unfold vo b;have key:∀(d n i:aG) (s:az),d+i=t.size->d<n->l2 Lib.c9 (λ(yA:az) (_:au) (_:az)=>aj yA) n s t (i:az)=aj (su t d i s):=by
  intro d;induction d with
  |zero=>
   intro n i s h1 h2;obtain⟨n,rfl⟩:∃m,n=m+1:=⟨n-1,by omega⟩
   simp only[l2,r2,Lib.dE,aM (show¬i<t.size by omega),aD];rfl
  |succ d ih=>
   intro n i s h1 h2;obtain⟨n,rfl⟩:∃m,n=m+1:=⟨n-1,by omega⟩
   have lK:bN ((i:az)+1)=((i+1:aG):az):=dh (by omega) (by omega);simp only[l2,r2,Lib.dE,aJ (show i<t.size by omega),Lib.cS,aP,ay,Lib.eG];have e:=in6 (R:=az) Lib.c9 (λy7 y8 y9 _=>l2 Lib.c9 (λyA _ _=>aj yA) n y7 y8 (bN (y9+1))) t (i:az) 8 Lib.c9 0 (bK eh (↑(dR (lG (b_ 32 s) (b_ 32 (bK eh (↑(iI t i):az))))):az)) rfl (by unfold Lib.c9;omega);refine e.trans ?_;rw[lK,ih n (i+1) _ (by omega) (by omega)];rfl
 exact key t.size Lib.c9 0 s (by omega) (cU (by omega))
theorem ok(s:az)(t:au)(ht:t.size<=4611686018427387904):c s t=ak/\v s t=su t t.size 0 s:=out s t (run s t ht)
end jw

namespace uJ
theorem ok(t:au)(ht:t.size<=4611686018427387904):c t=ak/\v t=jw.su t t.size 0 4294967295:=by have h:=jw.ok 4294967295 t ht;refine out t ?_;unfold vo b;rw[h.1,h.2];rfl
end uJ

namespace fU
def fr(t:au):au:=bytesOf (Lib.vb t.size)++o7.v (jw.su t t.size 0 4294967295)++t
def val(t:au):au×aY:=if 1<=t.size/\t.size<=9000 then(fr t,ak)else(⟨#[]⟩,aq)
theorem eQ(n a b:az):kG.v n a b=decide (a<=n/\n<=b):=by unfold kG.v;by_cases h:a<=n<;>by_cases h2:n<=b<;>simp[h,h2]
theorem UM{t:au}(h:t.size<=9000):(fr t).size<=t.size+68:=by unfold fr;have:=Lib.np (x:=(t.size:az)) (by omega);rw[Lib.ly,Lib.ly,o7.size];omega
theorem ok(t:au):c t=ak/\v t=val t:=by
 refine out t ?_;unfold vo b val;rw[eQ];by_cases h:1<=t.size/\t.size<=9000
 ·have hs:=uJ.ok t (by omega);have hc:jX.c (t.size:az)=true:=aJ (show(t.size:az)<=9223372036854775807 by omega);have z1:(jX.v (t.size:az)).size<=64:=Lib.np (x:=(t.size:az)) (by omega);rw[aJ (show(1:az)<=(t.size:az)/\(t.size:az)<=9000 by omega),bC h,hs.1,hs.2];simp(disch:=omega) only[ba,aD,ay,hc,Lib.ly,o7.size,Lib.aeI];rfl
 ·rw[aM (show¬((1:az)<=(t.size:az)/\(t.size:az)<=9000)by omega),bM h];rfl
end fU

namespace jL
theorem head{t:au}{p:aG}{b:FR}{r:aA FR}(h:t.data.toList.drop p=b::r):p<t.size/\iI t p=b.toNat/\t.data.toList.drop (p+1)=r:=by
 have hl:=mi bW h;rw[ia,c7]at hl;have hs:t.data.toList.length=t.size:=rfl;have hp:p<t.data.toList.length:=by omega
 have hd:=dJ hp;rw[hd]at h;injection h with h1 h2;refine⟨by omega, ?_,h2⟩
 unfold iI;have mB:p<t.data.size:=hp;rw[show t.data.getD p 0=t.data[p]by unfold Array.getD;rw[dif_pos mB];rfl];rw[<-h1];rfl
theorem AH(x:az)(r:aW):(bytesOf ([CV.i bk x]::r)).data.toList=ax x.toNat::(bytesOf r).data.toList:=rfl
theorem Sh(t:au)(a:aG)(rest:aA FR):∀(f j:aG) (n y:az),0<=y->0<=n->n+y*128^j<=1000000000->y<=1000000000->(j>0->0<y)->t.data.toList.drop (a+j)=(bytesOf (Lib.vb y)).data.toList++rest->(Lib.vb y).length<=f->
  Lib.rv t a f j n=(n+y*128^j,((a+j+(Lib.vb y).length:aG):az),ak)/\t.data.toList.drop (a+j+(Lib.vb y).length)=rest
 |0,j,n,y,h0,hn,hb,hy,hj,hd,hf=>by
  by_cases hc:y>127
  ·rw[Lib.u9 hc]at hf;simp at hf
  ·rw[Lib.mr hc]at hf;simp at hf
 |f+1,j,n,y,h0,hn,hb,hy,hj,hd,hf=>by
  by_cases hc:y>127
  ·have e1:cG y 128=y%128:=rV (by omega);have e2:cT y 128=y/128:=gE (by omega);have e3:bN (y%128+128)=y%128+128:=dh (by omega) (by omega);have e4:bK bk (y%128+128)=y%128+128:=by show(y%128+128)%256=_;omega
   have e5:bN (y/128)=y/128:=dh (by omega) (by omega);have ev:Lib.vb y=[CV.i bk (y%128+128)]::Lib.vb (y/128):=by rw[Lib.u9 hc,e1,e2,e3,e4,e5]
   rw[ev,AH,Al]at hd;obtain⟨q1,q2,q3⟩:=head hd;have q4:(iI t (a+j):az)=y%128+128:=by rw[q2,KV];omega
   rw[ev,c7]at hf;have hP:y*128^j=y%128*128^j+y/128*128^(j+1):=by
    have hyd:y=y%128+128*(y/128):=by omega
    rw[tF];generalize (128:az)^j=P;conv=>lhs;rw[hyd]
    rw[Int.add_mul,Int.mul_comm P 128,<-Int.mul_assoc,Int.mul_comm (y/128) 128]
   have hpp:(0:az)<=y%128*128^j:=Int.mul_nonneg (by omega) (Int.le_of_lt (Int.pow_pos (by omega)));obtain⟨i1,i2⟩:=Sh t a rest f (j+1) (n+y%128*128^j) (y/128) (by omega) (by omega) (by omega) (by omega) (by omega) (by rw[show a+(j+1)=a+j+1 by omega];exact q3) (by omega);refine⟨?_, ?_⟩
   ·unfold Lib.rv;rw[bC q1,q4,bC (by omega),show(y%128+128)%128=y%128 by omega,i1,hP,ev,c7];refine Prod.ext ?_ (Prod.ext ?_ rfl)
    ·dsimp only;omega
    ·dsimp only;omega
   ·rw[ev,c7,show a+j+((Lib.vb (y/128)).length+1)=a+(j+1)+(Lib.vb (y/128)).length by omega];exact i2
  ·have e4:bK bk y=y:=by show y%256=_;omega
   have ev:Lib.vb y=[[CV.i bk y]]:=by rw[Lib.mr hc,e4]
   rw[ev,AH,Al]at hd;obtain⟨q1,q2,q3⟩:=head hd;have q4:(iI t (a+j):az)=y:=by rw[q2,KV];omega
   refine⟨?_,by rw[ev];exact q3⟩
   unfold Lib.rv;rw[bC q1,q4,bM hc,show y%128=y by omega,bM (by omega),ev];rfl
theorem vb5{y:az}(h:y<=1000000000):(Lib.vb y).length<=5:=by
 have e:(128:az)^(4+1)=34359738368:=by decide
 exact Lib.z7 4 y (by rw[e];omega)
theorem lT(t:au)(p:aG)(y:az)(rest:aA FR)(h0:0<=y)(h1:y<=1000000000)(hd:t.data.toList.drop p=(bytesOf (Lib.vb y)).data.toList++rest):Lib.eD t p=(y,((p+(Lib.vb y).length:aG):az),ak)/\t.data.toList.drop (p+(Lib.vb y).length)=rest:=by
 have hl:=mi bW hd;have ic:0<(Lib.vb y).length:=by
  by_cases hc:y>127
  ·rw[Lib.u9 hc];simp
  ·rw[Lib.mr hc];simp
 have hb:(bytesOf (Lib.vb y)).data.toList.length=(Lib.vb y).length:=Lib.iy _;rw[ia,bP,hb]at hl;have hs:t.data.toList.length=t.size:=rfl;obtain⟨i1,i2⟩:=Sh t p rest 5 0 0 y h0 (by omega) (by simp;omega) h1 (by omega) (by simpa using hd) (vb5 h1);refine⟨?_,by simpa using i2⟩
 unfold Lib.eD;rw[bC (by omega),show((p:aG):az).toNat=p from rfl,i1];simp
theorem Ja(t k:au)(p:aG)(rest:aA FR)(hd:t.data.toList.drop p=k.data.toList++rest):t.extract p (p+k.size)=k:=by apply Lib.rZ;simp only[fY,g_,gP];rw[hd,show p+k.size-p=k.data.toList.length by show p+k.size-p=k.size;omega,List.take_left]
theorem enc(k:au)(s l:az)(b:au)(h:iM.v k s l b=ak):v (jP.rR k s l b)=(k,s,l,b,ak):=by
 obtain⟨⟨k1,k2⟩,⟨s1,s2⟩,⟨l1,l2⟩,b1⟩:=iM.F7 h;generalize ht:jP.rR k s l b=t;have hT:t.data.toList=(bytesOf (Lib.vb k.size)).data.toList++(k.data.toList++((bytesOf (Lib.vb s)).data.toList++((bytesOf (Lib.vb l)).data.toList++b.data.toList))):=by rw[<-ht];unfold jP.rR;simp only[lO,ui,cj]
 have hs:t.data.toList.length=t.size:=rfl;have hk:k.data.toList.length=k.size:=rfl;obtain⟨a1,a2⟩:=lT t 0 (k.size:az) _ (by omega) (by omega) (by rw[fB];exact hT);rw[bT]at a1 a2;generalize (Lib.vb (k.size:az)).length=n1 at a1 a2;have ao8:=mi bW a2;simp only[ia,bP,hk,hs]at ao8;have ek:=Ja t k n1 _ a2;have a3:t.data.toList.drop (n1+k.size)=(bytesOf (Lib.vb s)).data.toList++((bytesOf (Lib.vb l)).data.toList++b.data.toList):=by rw[<-uw,a2];exact List.drop_left' (by rw[hk])
 obtain⟨b1',b2⟩:=lT t (n1+k.size) s _ (by omega) (by omega) a3;obtain⟨c1,c2⟩:=lT t (n1+k.size+(Lib.vb s).length) l _ (by omega) (by omega) b2;have hr:Lib.iD t 0=(k,((n1+k.size:aG):az),ak):=by unfold Lib.iD;rw[show(0:az)=((0:aG):az)from rfl,a1];dsimp only;rw[bC (by omega)];rw[show((n1:aG):az).toNat=n1 from rfl,show((n1:az)+(k.size:az)).toNat=n1+k.size by omega,ek];rfl
 have eb:t.extract (n1+k.size+(Lib.vb s).length+(Lib.vb l).length) t.size=b:=by
  have Jr:=mi bW c2;rw[ia,hs]at Jr;have hbs:b.data.toList.length=b.size:=rfl;by_cases hz:b.size=0
  ·apply Lib.rZ;simp only[fY,g_,gP];rw[c2];exact iK (by omega)
  ·apply Lib.rZ;simp only[fY,g_,gP];rw[c2];exact iK (by omega)
 unfold v;rw[hr];dsimp only;rw[b1'];dsimp only;rw[c1];dsimp only;rw[show((n1+k.size+(Lib.vb s).length+(Lib.vb l).length:aG):az).toNat=n1+k.size+(Lib.vb s).length+(Lib.vb l).length from rfl,eb,bC h]
end jL

namespace vq
theorem in6(N:aG)(K:az->au->az->az->aC R)(a:au)(b:az):∀(d n i:aG) (x:az),d+i=8->d<n->l6 N K n x a b (i:az)=K (jw.mW d x) a b 8:=by
 intro d;induction d with
 |zero=>
  intro n i x h1 h2;obtain⟨n,rfl⟩:∃m,n=m+1:=⟨n-1,by omega⟩
  have:i=8:=by omega
  subst this;rfl
 |succ d ih=>
  intro n i x h1 h2;obtain⟨n,rfl⟩:∃m,n=m+1:=⟨n-1,by omega⟩
  have lK:bN ((i:az)+1)=((i+1:aG):az):=dh (by omega) (by omega);rw[jw.mW,<-ih n (i+1) (jw.rd x) (by omega) (by omega)];simp only[l6,r6,aJ (show(i:az)<8 by omega),ay,lK,jw.rd];cases decide (cG x 2=1)<;>rfl
theorem run(s:az)(t:au)(ht:t.size<=4611686018427387904):vo s t=aj (jw.su t t.size 0 s):=by
 unfold vo b;have key:∀(d n i:aG) (s:az),d+i=t.size->d<n->l2 Lib.c9 (λ(yA:az) (_:au) (_:az)=>aj yA) n s t (i:az)=aj (jw.su t d i s):=by
  intro d;induction d with
  |zero=>
   intro n i s h1 h2;obtain⟨n,rfl⟩:∃m,n=m+1:=⟨n-1,by omega⟩
   simp only[l2,r2,Lib.dE,aM (show¬i<t.size by omega),aD];rfl
  |succ d ih=>
   intro n i s h1 h2;obtain⟨n,rfl⟩:∃m,n=m+1:=⟨n-1,by omega⟩
   have lK:bN ((i:az)+1)=((i+1:aG):az):=dh (by omega) (by omega);simp only[l2,r2,Lib.dE,aJ (show i<t.size by omega),Lib.cS,aP,ay,Lib.eG];have e:=in6 (R:=az) Lib.c9 (λy7 y8 y9 _=>l2 Lib.c9 (λyA _ _=>aj yA) n y7 y8 (bN (y9+1))) t (i:az) 8 Lib.c9 0 (bK eh (↑(dR (lG (b_ 32 s) (b_ 32 (bK eh (↑(iI t i):az))))):az)) rfl (by unfold Lib.c9;omega);refine e.trans ?_;rw[lK,ih n (i+1) _ (by omega) (by omega)];rfl
 exact key t.size Lib.c9 0 s (by omega) (cU (by omega))
theorem ok(s:az)(t:au)(ht:t.size<=4611686018427387904):c s t=ak/\v s t=jw.su t t.size 0 s:=out s t (run s t ht)
end vq

namespace tN
theorem ok(t:au)(ht:t.size<=4611686018427387904):c t=ak/\v t=jw.su t t.size 0 4294967295:=by have h:=vq.ok 4294967295 t ht;refine out t ?_;unfold vo b;rw[h.1,h.2];rfl
end tN

namespace Eu
theorem ok(t:au)(ht:t.size<=4611686018427387904):c t=ak/\v t=o7.v (jw.su t t.size 0 4294967295):=by have h:=tN.ok t ht;refine out t ?_;unfold vo b;rw[h.1,h.2];rfl
end Eu

namespace rJ
theorem cut(a s s' b:au):dg (aL (a++s++b)) (aL (a++s'++b))=dg (aL s) (aL s'):=by
 rw[Lib.fE,Lib.fE,ch];constructor
 ·intro h;have h2:=mi (λx:au=>x.data.toList) h;simp only[lO,ui,cj]at h2;have h3:=List.append_cancel_right (List.append_cancel_left h2);exact Lib.rZ h3
 ·intro h;rw[h]
theorem lW(n a b:az):od.v n a b=decide (a<=n/\n<=b):=fU.eQ n a b
theorem both(t:au)(ht:t.size<=20000):∀(d:aG) (iu:aG) (acc:aW) (n m:aG) (z:az),t.size-iu<=d->iu<=t.size->acc.length<=iu->d<n->d<m->
  ∃R:aW×az,U203.l3 Lib.c9 (λ(_:au) (y4:az) (y5:aW)=>aj (y5,y4)) n t (iu:az) acc=aj R/\l5 Lib.c9 (λ(_:au) (y5 _:az) (y7:aW)=>aj (y7,y5)) (λ(_:au) (_ Mm:az) (yA:aW)=>aj (yA,Mm)) m t z (iu:az) acc=aj R/\R.1.length<=20000:=by
 intro d;induction d with
 |zero=>
  intro iu acc n m z h1 h2 h3 h4 h5;obtain⟨n,rfl⟩:∃n',n=n'+1:=⟨n-1,by omega⟩
  obtain⟨m,rfl⟩:∃m',m=m'+1:=⟨m-1,by omega⟩
  have jG:decide ((iu:az)<(t.size:az))=false:=aM (by omega);have hr:(Lib.eD t (iu:az)).2.2=false:=by
   cases h:Lib.eD t (iu:az)with
   |mk a r=>
    obtain⟨x,o⟩:=r;cases o with
    |false=>rfl
    |true=>have:=Lib.ki h;omega
  have e1:∀a b,gv.v a b=Lib.eD a b:=λ_ _=>rfl;refine⟨(acc,(iu:az)), ?_, ?_,by dsimp only;omega⟩
  ·simp only[U203.l3,U203.r3,e1,hr,aJ (show(t.size:az)<=20000 by omega),ay,bX]
  ·simp only[l5,r5,jG,aD]
 |succ d ih=>
  intro iu acc n m z h1 h2 h3 h4 h5;obtain⟨n,rfl⟩:∃n',n=n'+1:=⟨n-1,by omega⟩
  obtain⟨m,rfl⟩:∃m',m=m'+1:=⟨m-1,by omega⟩
  have e1:∀a b,gv.v a b=Lib.eD a b:=λ_ _=>rfl;have e2:∀a b,fD.v a b=Lib.eD a b:=λ_ _=>rfl;have fX:decide ((t.size:az)<=20000)=true:=aJ (by omega);cases hr:Lib.eD t (iu:az)with
  |mk N r=>
   obtain⟨nx,o⟩:=r;cases o with
   |false=>
    refine⟨(acc,(iu:az)), ?_, ?_,by dsimp only;omega⟩
    ·simp only[U203.l3,U203.r3,e1,hr,fX,ay,bX]
    ·by_cases jG:(iu:az)<(t.size:az)
     ·simp only[l5,r5,e2,hr,aJ jG,ay,bX]
     ·simp only[l5,r5,aM jG,aD]
   |true=>
    obtain⟨q1,q2,q3,q4,q5,q6⟩:=Lib.ki hr;have jG:decide ((iu:az)<(t.size:az))=true:=aJ (by omega);have w1:bN (N+4)=N+4:=dh (by omega) (by omega);have w2:bN ((t.size:az)-nx)=(t.size:az)-nx:=dh (by omega) (by omega);have w3:bN ((t.size:az)-nx-4)=(t.size:az)-nx-4:=dh (by omega) (by omega);have w4:bN (nx+4)=nx+4:=dh (by omega) (by omega);have w5:bN (nx+4+N)=nx+4+N:=dh (by omega) (by omega);by_cases EX:N+4>(t.size:az)-nx
    ·have Dn:N>(t.size:az)-nx-4:=by omega
     refine⟨(acc,(iu:az)), ?_, ?_,by dsimp only;omega⟩
     ·cases U3:decide (1<=N/\N<=9000)with
      |false=>simp only[U203.l3,U203.r3,e1,hr,fX,lW,U3,ay,aD,ba,bX]
      |true=>simp only[U203.l3,U203.r3,e1,hr,fX,lW,U3,w1,w2,aJ EX,ay,aD,ba]
     ·simp only[l5,r5,e2,hr,jG,w2,w3,aJ Dn,ay,aD,ba]
    ·have Dn:¬N>(t.size:az)-nx-4:=by omega
     have i1:iQ (nx+4) (nx+4+N) (t.size:az)=true:=by simp[iQ];omega
     have i2:iQ nx (nx+4) (t.size:az)=true:=by simp[iQ];omega
     have i3:iQ (iu:az) (nx+4+N) (t.size:az)=true:=by simp[iQ];omega
     have hts:(t.extract (nx+4).toNat (nx+4+N).toNat).size=N.toNat:=by rw[wz];omega
     generalize Yb:t.extract (nx+4).toNat (nx+4+N).toNat=tx at hts;have f1:=fU.ok tx;have f2:=Eu.ok tx (by omega);by_cases U3:1<=N/\N<=9000
     ·have TQ:fU.val tx=(fU.fr tx,ak):=by unfold fU.val;rw[bC (by omega)]
      have amR:((tx.size:aG):az)=N:=by omega
      have Cv:fU.fr tx=t.extract iu nx.toNat++o7.v (jw.su tx tx.size 0 4294967295)++tx:=by unfold fU.fr;rw[amR,q6];rfl
      have hwh:t.extract iu (nx+4+N).toNat=t.extract iu nx.toNat++t.extract nx.toNat (nx+4).toNat++tx:=by rw[<-Yb,Lib.vI t (by omega) (by omega),Lib.vI t (by omega) (by omega)]
      have UR:dg (aL (fU.fr tx)) (aL (t.extract iu (nx+4+N).toNat))=dg (aL (o7.v (jw.su tx tx.size 0 4294967295))) (aL (t.extract nx.toNat (nx+4).toNat)):=by rw[Cv,hwh];exact cut _ _ _ _
      have Hh:cK (acc.length+1) 16=true:=Lib.cy (by omega) (by omega);cases hs:dg (aL (o7.v (jw.su tx tx.size 0 4294967295))) (aL (t.extract nx.toNat (nx+4).toNat))with
      |false=>
       rw[hs]at UR;refine⟨(acc,(iu:az)), ?_, ?_,by dsimp only;omega⟩
       ·simp only[U203.l3,U203.r3,e1,hr,fX,lW,aJ U3,w1,w2,w4,w5,aM EX,i1,i2,Yb,f2.1,f2.2,hs,ay,aD,ba,bX]
       ·simp only[l5,r5,e2,hr,jG,w2,w3,w4,w5,aM Dn,i1,i3,Yb,f1.1,f1.2,TQ,dA,UR,ay,aD,ba,bX]
      |true=>
       rw[hs]at UR;obtain⟨a2,ha2⟩:∃a2:aG,nx+4+N=(a2:az):=⟨(nx+4+N).toNat,by omega⟩
       obtain⟨R,g1,g2,g3⟩:=ih a2 (acc++[[CV.s tx]]) n m z (by omega) (by omega) (by rw[bP,bw];omega) (by omega) (by omega);refine⟨R, ?_, ?_,g3⟩
       ·simp only[U203.l3,U203.r3,e1,hr,fX,lW,aJ U3,w1,w2,w4,w5,aM EX,i1,i2,Yb,f2.1,f2.2,hs,Lib.jM,bw,Hh,ay,aD,ba];rw[ha2];exact g1
       ·simp only[l5,r5,e2,hr,jG,w2,w3,w4,w5,aM Dn,i1,i3,Yb,f1.1,f1.2,TQ,dA,UR,Lib.jM,bw,Hh,ay,aD,ba];rw[ha2];exact g2
     ·have TQ:fU.val tx=(⟨#[]⟩,aq):=by unfold fU.val;rw[bM (by omega)]
      refine⟨(acc,(iu:az)), ?_, ?_,by dsimp only;omega⟩
      ·simp only[U203.l3,U203.r3,e1,hr,fX,lW,aM U3,ay,aD,ba,bX]
      ·simp only[l5,r5,e2,hr,jG,w2,w3,w4,w5,aM Dn,i1,Yb,f1.1,f1.2,TQ,ay,aD,ba,bX]
theorem same(t:au):∃R:aW×az,(c t=ak/\v t=R)/\(U203.c t=ak/\U203.v t=R)/\R.1.length<=20000:=by
 by_cases ht:t.size<=20000
 ·obtain⟨R,g1,g2,g3⟩:=both t ht t.size 0 [] Lib.c9 Lib.c9 0 (by omega) (bL _) (cu _) (cU (by omega)) (cU (by omega));refine⟨R,out t ?_,U203.out t ?_,g3⟩
  ·unfold vo b;rw[aM (show¬(t.size:az)>20000 by omega),aD];exact g2
  ·unfold U203.vo U203.b;exact g1
 ·refine⟨([],0),out t ?_,U203.out t ?_,bL _⟩
  ·unfold vo b;rw[aJ (show(t.size:az)>20000 by omega)];rfl
  ·unfold U203.vo U203.b;have hb:Lib.c9=18446744073709551615+1:=rfl;have:∀n,U203.l3 Lib.c9 (λ(_:au) (y4:az) (y5:aW)=>aj (y5,y4)) (n+1) t 0 (aT [Ck.s] 0)=aj ([],0):=by intro n;simp only[U203.l3,U203.r3,aM (show¬(t.size:az)<=20000 by omega),aD];rfl
   exact this 18446744073709551615
end rJ

namespace TZ
def fs:aA au->au
 |[]=>⟨#[]⟩|x::r=>fU.fr x++fs r
theorem toL(a b:au):(a++b).data.toList=a.data.toList++b.data.toList:=by simp[lO]
theorem ER(x:au):(fU.fr x).data.toList=(bytesOf (Lib.vb x.size)).data.toList++((o7.v (jw.su x x.size 0 4294967295)).data.toList++x.data.toList):=by unfold fU.fr;rw[toL,toL,cj]
theorem Ik(x:au):x.data.toList.length=x.size:=dN
def Stop(z:au):Prop:=z=⟨#[]⟩\/∃(x:au) (w:aA FR),x.size<=9000/\(fU.fr x).data.toList=z.data.toList++w/\w≠[]
theorem oq(n:az):(o7.v n).size=4:=rfl
theorem vbl(n:az):(bytesOf (Lib.vb n)).data.toList.length=(Lib.vb n).length:=by rw[Ik,Lib.iy]
theorem stop{t z:au}{p:aG}(hz:Stop z)(hp:p<=t.size)(hd:t.data.toList.drop p=z.data.toList){N nx:az}(h:Lib.eD t p=(N,nx,ak)):N+4>(t.size:az)-nx:=by
 obtain⟨q1,q2,q3,q4,q5,q6⟩:=Lib.ki h;have hl:t.size-p=z.size:=by have:=mi bW hd;rw[ia,Ik,Ik]at this;exact this
 rcases hz with rfl|⟨x,w,hx,hF,hw⟩
 ·have:(⟨#[]⟩:au).size=0:=rfl;omega
 ·-- the file's next bytes are the number's
  have e1:(t.extract p nx.toNat).data.toList=z.data.toList.take (nx.toNat-p):=by rw[<-hd];simp[fY,g_,List.extract]
  rw[dA]at q6;have Jx:nx.toNat-p<=z.data.toList.length:=by rw[Ik];omega
  have e2:(fU.fr x).data.toList.drop 0=(bytesOf (Lib.vb N)).data.toList++(z.data.toList.drop (nx.toNat-p)++w):=by rw[fB,hF,q6,e1,<-cj,List.take_append_drop]
  have e3:(fU.fr x).data.toList.drop 0=(bytesOf (Lib.vb x.size)).data.toList++((o7.v (jw.su x x.size 0 4294967295)).data.toList++x.data.toList):=by rw[fB,ER]
  have r1:=(jL.lT _ 0 N _ q4 q5 e2).1;have r2:=(jL.lT _ 0 (x.size:az) _ (by omega) (by omega) e3).1;rw[r1]at r2;obtain⟨hN,hq⟩:=bU r2;have hlen:(Lib.vb N).length=nx.toNat-p:=by have:=mi bW (mi (λy:au=>y.data.toList) q6);simp only[vbl,e1,eu]at this;omega
  have hFl:=mi bW hF;rw[ER,bP,bP,bP,vbl,Ik,Ik,Ik,oq]at hFl;have hw1:1<=w.length:=by cases w with|nil=>exact cq rfl hw|cons=>simp
  subst hN;omega
theorem go(t:au)(ht:t.size<=20000)(z:au)(hz:Stop z):∀(es:aA au),(∀x∈es,1<=x.size/\x.size<=9000)->∀(p n:aG) (acc:aW),p<=t.size->acc.length<=p->t.data.toList.drop p=(fs es++z).data.toList->t.size-p<n->
  U203.l3 Lib.c9 (λ(_:au) (y4:az) (y5:aW)=>aj (y5,y4)) n t (p:az) acc=aj (acc++Lib.rs es,((p+(fs es).size:aG):az)):=by
 have e0:∀a b,gv.v a b=Lib.eD a b:=λ_ _=>rfl;have fX:decide ((t.size:az)<=20000)=true:=aJ (by omega);intro es;induction es with
 |nil=>
  intro hes p n acc hp ha hd hn;obtain⟨n,rfl⟩:∃n',n=n'+1:=⟨n-1,by omega⟩
  have hd:t.data.toList.drop p=z.data.toList:=by rw[hd];unfold fs;rw[toL];rfl
  have e1:acc++Lib.rs []=acc:=dn _;have e2:((p+(fs []).size:aG):az)=(p:az):=rfl;rw[e1,e2];cases hr:Lib.eD t (p:az)with
  |mk N r=>
   obtain⟨nx,o⟩:=r;cases o with
   |false=>simp only[U203.l3,U203.r3,e0,hr,fX,ay,bX]
   |true=>
    have hs:=stop hz hp hd hr;obtain⟨q1,q2,q3,q4,q5,q6⟩:=Lib.ki hr;have w1:bN (N+4)=N+4:=dh (by omega) (by omega);have w2:bN ((t.size:az)-nx)=(t.size:az)-nx:=dh (by omega) (by omega);cases U3:decide (1<=N/\N<=9000)with
    |false=>simp only[U203.l3,U203.r3,e0,hr,fX,rJ.lW,U3,ay,aD,ba,bX]
    |true=>simp only[U203.l3,U203.r3,e0,hr,fX,rJ.lW,U3,w1,w2,aJ hs,ay,aD,ba]
 |cons x es ih=>
  intro hes p n acc hp ha hd hn;obtain⟨n,rfl⟩:∃n',n=n'+1:=⟨n-1,by omega⟩
  have hx:=hes x (by simp);have hd1:t.data.toList.drop p=(bytesOf (Lib.vb x.size)).data.toList++((o7.v (jw.su x x.size 0 4294967295)).data.toList++(x.data.toList++(fs es++z).data.toList)):=by rw[hd,show fs (x::es)=fU.fr x++fs es from rfl,toL,toL,ER,toL];simp only[cj]
  obtain⟨hr,hd2⟩:=jL.lT t p (x.size:az) _ (by omega) (by omega) hd1;have Lp:(fU.fr x).size=(Lib.vb x.size).length+4+x.size:=by rw[<-Ik,ER,bP,bP,vbl,Ik,Ik,oq];omega
  have hlen:=mi bW hd;rw[ia,Ik,Ik]at hlen;have n7:(fs (x::es)++z).size=(fU.fr x).size+(fs es).size+z.size:=by rw[show fs (x::es)=fU.fr x++fs es from rfl,dC,dC]
  rw[n7,Lp]at hlen;generalize hm:(Lib.vb (x.size:az)).length=m at*
  have x4:t.extract (p+m) (p+m+4)=o7.v (jw.su x x.size 0 4294967295):=by have:=jL.Ja t _ (p+m) _ hd2;rwa[oq]at this
  have hd3:t.data.toList.drop (p+m+4)=x.data.toList++(fs es++z).data.toList:=by rw[<-uw,hd2,zx (by rw[Ik,oq];omega),Gi (by rw[Ik,oq];omega),gk]
  have x5:t.extract (p+m+4) (p+m+4+x.size)=x:=jL.Ja t x (p+m+4) _ hd3;have hd4:t.data.toList.drop (p+m+4+x.size)=(fs es++z).data.toList:=by rw[<-uw,hd3,zx (by rw[Ik];omega),Gi (by rw[Ik];omega),gk]
  have i:=ih (λy hy=>hes y (by simp[hy])) (p+m+4+x.size) n (acc++[[CV.s x]]) (by omega) (by simp;omega) hd4 (by omega);have w1:bN ((x.size:az)+4)=(x.size:az)+4:=dh (by omega) (by omega);have w2:bN ((t.size:az)-((p+m:aG):az))=(t.size:az)-((p+m:aG):az):=dh (by omega) (by omega);have w4:bN (((p+m:aG):az)+4)=((p+m+4:aG):az):=by rw[dh (by omega) (by omega)];omega
  have w5:bN (((p+m+4:aG):az)+(x.size:az))=((p+m+4+x.size:aG):az):=by rw[dh (by omega) (by omega)];omega
  have b1:¬(x.size:az)+4>(t.size:az)-((p+m:aG):az):=by omega
  have i1:iQ ((p+m+4:aG):az) ((p+m+4+x.size:aG):az) (t.size:az)=true:=by simp[iQ];omega
  have i2:iQ ((p+m:aG):az) ((p+m+4:aG):az) (t.size:az)=true:=by simp[iQ];omega
  have f2:=Eu.ok x (by omega);have Hh:cK (acc.length+1) 16=true:=Lib.cy (by omega) (by omega);simp only[U203.l3,U203.r3,e0,hr,fX,rJ.lW,aJ (show 1<=(x.size:az)/\(x.size:az)<=9000 by omega),w1,w2,w4,w5,aM b1,i1,i2,dA,x4,x5,f2.1,f2.2,Lib.qd,Lib.jM,bw,Hh,ay,aD,ba];rw[i];have e3:acc++[[CV.s x]]++Lib.rs es=acc++Lib.rs (x::es):=by unfold Lib.rs;simp
  have e4:p+m+4+x.size+(fs es).size=p+(fs (x::es)).size:=by
   have:(fs (x::es)).size=(fU.fr x).size+(fs es).size:=by rw[show fs (x::es)=fU.fr x++fs es from rfl,dC]
   omega
  rw[e3,e4]
theorem ok(es:aA au)(hes:∀x∈es,1<=x.size/\x.size<=9000)(z:au)(hz:Stop z)(ht:(fs es++z).size<=20000):
  (U203.c (fs es++z)=ak/\U203.v (fs es++z)=(Lib.rs es,((fs es).size:az)))/\(rJ.c (fs es++z)=ak/\rJ.v (fs es++z)=(Lib.rs es,((fs es).size:az))):=by
 have h1:=U203.out (fs es++z) (x:=(Lib.rs es,((fs es).size:az))) (by unfold U203.vo U203.b;have:=go (fs es++z) ht z hz es hes 0 Lib.c9 [] (bL _) (bL _) (by rw[fB]) (cU (by omega));rw[bT,gk]at this;exact this);obtain⟨R,s1,s2,_⟩:=rJ.same (fs es++z);refine⟨h1,s1.1, ?_⟩
 rw[s1.2,<-s2.2,h1.2]
end TZ

namespace iz
theorem wk{k b:au}{s l:az}(h:iM.v k s l b=ak):(jP.rR k s l b).size<=1000:=by have hr:=iM.F7 h;have z1:(bytesOf (Lib.vb (k.size:az))).size<=64:=Lib.np (x:=(k.size:az)) (by omega);have z2:(bytesOf (Lib.vb s)).size<=64:=Lib.np (x:=s) (by omega);have z3:(bytesOf (Lib.vb l)).size<=64:=Lib.np (x:=l) (by omega);unfold jP.rR;simp only[Lib.ly];omega
theorem FD{k b:au}{s l:az}(h:iM.v k s l b=ak):1<=(jP.rR k s l b).size:=by have hr:=iM.F7 h;unfold jP.rR;simp only[Lib.ly];omega
def val(k:au)(s l:az)(b:au):au×aY:=if iM.v k s l b=ak then(fU.fr (jP.rR k s l b),ak)else(⟨#[]⟩,aq)
end iz

namespace jf
def p(d:aW)(n:au)(i:aG):aY:=dg (aL (bH (aw d i 0))) (aL n)
theorem ok(d:aW)(n:au)(hl:d.length<=4294967296):c d n=ak/\v d n=Lib.fi (p d n) d.length 0:=by
 refine out d n ?_;unfold vo b;refine oI (p d n) d.length (λm (i:aG)=>l2 Lib.c9 (λ(_:au) (y5 _:az) (_:aW)=>aj y5) (λ(_:au) (_ _:az) (_:aW)=>aj (-1)) m n 0 (i:az) d) aj (λm i hi hp=> ?_) (λm i hi hp=> ?_) (λm=> ?_) Lib.c9 (cU (by omega))
 ·unfold p at hp;simp only[l2,r2,Lib.dE,Lib.cS,Lib.eG,hi,aR,aP,ay,hp]
 ·unfold p at hp;simp only[l2,r2,Lib.dE,Lib.cS,Lib.eG,hi,aR,aP,ay,hp,aD,Lib.de hi (by omega:d.length<=9223372036854775807)]
 ·simp only[l2,r2,Lib.dE,bu,bm,aD]
end jf

namespace mK
def val(d:aW)(n:au):au×aY:=if Lib.fi (jf.p d n) d.length 0<0 then(⟨#[]⟩,aq)else(bH (aw d (Lib.fi (jf.p d n) d.length 0).toNat 1),ak)
theorem F7(d:aW)(n:au)(h:¬Lib.fi (jf.p d n) d.length 0<0):0<=Lib.fi (jf.p d n) d.length 0/\Lib.fi (jf.p d n) d.length 0<(d.length:az):=by
 rcases Lib.pP (jf.p d n) d.length 0 with ⟨h1,_⟩|⟨k,h1,h2,h3,_,_⟩
 ·rw[h1]at h;omega
 ·rw[h3];omega
theorem ok(d:aW)(n:au)(hl:d.length<=4294967296):c d n=ak/\v d n=val d n:=by
 refine out d n ?_;have h:=jf.ok d n hl;unfold vo b val;rw[h.1,h.2,ay];by_cases hn:Lib.fi (jf.p d n) d.length 0<0
 ·rw[aJ hn,bC hn];rfl
 ·have hr:=F7 d n hn;rw[aM hn,bM hn,aD,aJ hr.1,aJ hr.2];rfl
end mK

namespace zg
theorem ok(r:aW)(hl:r.length<=4294967296):c r=ak/\v r=dF.val r:=by
 refine out r ?_;unfold vo b dF.val;have gQ:∀a b c,od.v a b c=kG.v a b c:=λ_ _ _=>rfl
 have key:=jU (dF.el r) r.length (λm (i:aG)=>l2 Lib.c9 (λ(y5:aY) (_:aW) (_ _:az) (_:aW)=>aj y5) (λ(_:aY) (_:aW) (_ _:az) (W6:aW)=>aj (decide ((W6.length:az)<=30))) m aq r (r.length:az) (i:az) r) (aj aq) (aj (decide ((r.length:az)<=30)))
  (λm i hi hp=>by
   unfold dF.el at hp;simp only[aK]at hp;obtain⟨h1,h2,h3,h4⟩:=hp;have h3:decide (0<=bY (aw r i (1+1))/\bY (aw r i (1+1))<=((bH (aw r i 1)).size:az))=true:=h3;have h2:decide (((bH (aw r i 1)).size:az)>20000)=false:=by simpa using h2
   by_cases hz:0<i
   ·have e0:decide ((i:az)>0)=true:=aJ (by omega);have mB:i-1<r.length:=by omega
    have h5:cf (aL (bH (aw r (i-1) 0))) (aL (bH (aw r i 0)))=true:=by
     rcases dH _ _▸h4 with q|q
     ·have:i=0:=by simpa using q
      omega
     ·exact q
    simp only[l2,r2,Lib.dE,hi,mB,aR,Lib.cS,aP,ay,aD,Lib.eG,gQ,dF.mo,h1,h2,h3,h5,e0,dF.BO hz (by omega),ba,Lib.de hi (by omega:r.length<=9223372036854775807)]
   ·have e0:decide ((i:az)>0)=false:=aM (by omega);simp only[l2,r2,Lib.dE,hi,aR,Lib.cS,aP,ay,aD,Lib.eG,gQ,dF.mo,h1,h2,h3,e0,ba,Lib.de hi (by omega:r.length<=9223372036854775807)])
  (λm i hi hp=>by
   unfold dF.el at hp;cases h1:decide (1<=((bH (aw r i 0)).size:az)/\((bH (aw r i 0)).size:az)<=8)with
   |false=>simp only[l2,r2,Lib.dE,hi,aR,Lib.cS,aP,ay,aD,Lib.eG,gQ,dF.mo,h1,bX]
   |true=>
   cases h2:decide (((bH (aw r i 1)).size:az)>20000)with
   |true=>simp only[l2,r2,Lib.dE,hi,aR,Lib.cS,aP,ay,aD,Lib.eG,gQ,dF.mo,h1,h2,ba]
   |false=>
   cases h3:decide (0<=bY (aw r i (1+1))/\bY (aw r i (1+1))<=((bH (aw r i 1)).size:az))with
   |false=>simp only[l2,r2,Lib.dE,hi,aR,Lib.cS,aP,ay,aD,Lib.eG,gQ,dF.mo,h1,h2,h3,ba,bX]
   |true=>
   rw[h1,h2,show decide (0<=bY (aw r i 2)/\bY (aw r i 2)<=((bH (aw r i 1)).size:az))=ak from h3,bX,bj,bj,bj]at hp;rw[ij]at hp;obtain⟨h4,h5⟩:=hp;have hz:0<i:=by
    have:¬i=0:=by simpa using h4
    omega
   have e0:decide ((i:az)>0)=true:=aJ (by omega);have mB:i-1<r.length:=by omega
   simp only[l2,r2,Lib.dE,hi,mB,aR,Lib.cS,aP,ay,aD,Lib.eG,gQ,dF.mo,h1,h2,h3,h5,e0,dF.BO hz (by omega),ba,bX])
  (λm=>by simp only[l2,r2,Lib.dE,bu,bm,aD]) Lib.c9 (cU (by omega))
 refine key.trans ?_;rw[show decide ((r.length:az)<=30)=decide (r.length<=30)from by rw[ch];omega];cases (cO r.length).all (dF.el r)<;>cases decide (r.length<=30)<;>rfl
end zg

namespace km
open Lib (rd el Fi)
open eH (without put SoD uY act FY kM)
def res(o:aC (aA Fi)):aW×aY:=match o with|some d=>(rd d,ak)|none=>([],aq)
theorem find(l:aA Fi)(n:au):(Lib.fi (jf.p (rd l) n) l.length 0= -1/\l.find? (λx=>decide (x.n=n))=ao)\/∃i,i<l.length/\Lib.fi (jf.p (rd l) n) l.length 0=(i:az)/\l.find? (λx=>decide (x.n=n))=aj (el l i):=by
 have hq:∀i (hi:i<l.length),jf.p (rd l) n i=decide (l[i].n=n):=λi hi=>by unfold jf.p;rw[JU hi];exact Lib.fE
 rcases Lib.pP (jf.p (rd l) n) l.length 0 with ⟨e,ha⟩|⟨k,_,hk,e,hp,hb⟩
 ·refine .inl ⟨e,p8.2 λx hx=> ?_⟩;obtain⟨i,hi,rfl⟩:=da hx;rw[<-hq i hi,ha i (by omega) (by omega)];simp
 ·have ud:k<l.length:=by omega
  refine .inr ⟨k,ud,e, ?_⟩;rw[Am];exact⟨by rw[eU ud,<-hq k ud];exact hp,k,ud,(eU ud).symm,λj hj=>by rw[<-hq j (by omega),hb j (by omega) hj];rfl⟩
theorem okc(d:aA Fi)(h:d.length<=1000000):zg.c (rd d)=ak/\zg.v (rd d)=uY d:=zg.ok (rd d) (by rw[gq];omega)
end km

namespace vl
theorem ok(l:aW)(hl:l.length<=4294967296):c l=ak/\v l=l:=by refine out l ?_;unfold vo b;rw[show bW (aT [Ck.s,Ck.i ar,Ck.i ar,Ck.s] 0)+l.length=l.length by simp[aT],Lib.cy (by omega) (by omega)];rfl
end vl

namespace BZ
theorem ok(l:aW)(k:au)(hc:l.all oD.cn=ak)(hl:l.length<=4294967296):c l k=ak/\v l k=l.filter (oD.keep k):=by have h1:=vl.ok l hl;have h2:=oD.ok l k hc hl;exact out l k (by unfold vo b;rw[h1.1,h1.2,h2.1,h2.2,ay,ay])
end BZ

namespace tM
theorem BL(p q:aA CV->aY):∀r:aW,(∀y∈r,q y= !p y)->r.Pairwise (λy z=>p z=ak->p y=ak)->r.takeWhile p=r.filter p/\r.dropWhile p=r.filter q
 |[],_,_=>⟨rfl,rfl⟩
 |y::r,hq,h=>by
  rw[p9]at h;have hy:=hq y (by simp);cases hp:p y with
  |true=>rw[hp]at hy;obtain⟨i1,i2⟩:=BL p q r (λz hz=>hq z (by simp[hz])) h.2;rw[pI hp,dx hp,List.dropWhile_cons_of_pos hp,cm (by rw[hy];simp),i1,i2];exact⟨rfl,rfl⟩
  |false=>
   rw[hp]at hy;have hn:¬p y=true:=by rw[hp];simp
   have ha:∀z∈r,p z=false:=λz hz=>by
    cases CB:p z with
    |false=>rfl
    |true=>exact cq (h.1 z hz CB) hn
   rw[pH hn,cm hn,List.dropWhile_cons_of_neg hn,dx (by rw[hy];rfl)];refine⟨?_, ?_⟩
   ·symm;rw[Iw];intro z hz;rw[ha z hz];simp
   ·congr 1;symm;rw[eN];intro z hz;rw[hq z (by simp[hz]),ha z hz];rfl
theorem aa2{r:aW}(h:∀y∈r,fL.cr y=y):r.all oD.cn=true:=by rw[bn];intro y hy;rw[<-h y hy];rfl
theorem ok(r:aW)(k:au)(s l:az)(b0:au)(hO:fL.Or r)(hl:r.length<=1048576):c r k s l b0=ak/\v r k s l b0=fL.val r k s l b0:=by
 refine out r k s l b0 ?_;have hd:=BZ.ok r k (aa2 hO.2) (by omega);unfold vo b;rw[hd.1,ay,hd.2];have Lp:(r.filter (oD.keep k)).length<=r.length:=eK _ _;have hke:∀y,oD.keep k y= !List.beq (fL.key y) (aL k):=λ_=>rfl;have htw:=BL (fL.pl k) (fL.pg k) (r.filter (oD.keep k)) (λy hy=>by
  have h2:=(du.1 hy).2;rw[hke]at h2;have h3:dg (fL.key y) (aL k)=false:=by simpa using h2
  unfold fL.pg fL.pl;rw[h3,Bool.or_false]) ((hO.1.sublist js).imp (λ{y z} hyz hz=>fL.qf _ _ _ hyz hz))
 have e1:(r.filter (oD.keep k)).filter (fL.pl k)=r.filter (fL.pl k):=by
  rw[Mx];apply pV;intro y _;cases h:fL.pl k y with
  |false=>rfl
  |true=>
   rw[hke,bj];cases h2:dg (fL.key y) (aL k)with
   |false=>rfl
   |true=>exfalso;have h3:=Lib.beq_iff.1 h2;unfold fL.pl at h;rw[h3,fL.oi]at h;cases h
 have e2:(r.filter (oD.keep k)).filter (fL.pg k)=r.filter (fL.pg k):=by rw[Mx];apply pV;intro y _;rw[hke];unfold fL.pg;cases dg (fL.key y) (aL k)<;>cases cf (fL.key y) (aL k)<;>rfl
 generalize r.filter (oD.keep k)=o at Lp htw e1 e2
 have:=wj (fL.pl k) o (λm (i:aG)=>l3 Lib.c9 (λ(y6:az) (y7:au) (y8 y9:az) (Mm:au) (yA:aW)=>bif(decide (0<=y6)&&decide (y6<=(↑(bW yA):az))&&cK (bW yA+bW (aE (aT [Ck.s,Ck.i ar,Ck.i ar,Ck.s] 1) 0 [CV.s y7,CV.i ar y8,CV.i ar y9,CV.s Mm])) 48)then(aj (Pu.xS yA (bc y6) (aE (aT [Ck.s,Ck.i ar,Ck.i ar,Ck.s] 1) 0 [CV.s y7,CV.i ar y8,CV.i ar y9,CV.s Mm])))else(ao)) m (i:az) k s l b0 o)
  (λa=>bif decide ((a:az)<=(o.length:az))then aj (Pu.xS o a [fL.nw k s l b0])else ao)
  (λm i h hp=>by
   have mB:cf (aL (bH (aw o i 0))) (aL k)=true:=by rw[Lib.cY h];exact hp
   simp only[l3,r3,Lib.dE,h,aR,Lib.cS,aP,ay,Lib.eG,mB,Lib.de h (by omega:o.length<=9223372036854775807)])
  (λm i h hp=>by
   have mB:cf (aL (bH (aw o i 0))) (aL k)=false:=by rw[Lib.cY h];exact hp
   simp only[l3,r3,Lib.dE,h,aR,Lib.cS,aP,bj,pc,ay,aD,Lib.eG,mB,Lib.jM,bw,Lib.cy (n:=o.length+1) (b:=48) (by omega) (by omega)];rfl)
  (λm=>by simp only[l3,r3,Lib.dE,bu,bm,aR,Lib.cS,aP,bj,pc,ay,aD,Lib.eG,Lib.jM,bw,Lib.cy (n:=o.length+1) (b:=48) (by omega) (by omega)];rfl) Lib.c9 (cU (by omega))
 refine this.trans ?_;have hle:=H2 (fL.pl k) o;rw[aJ (by omega),ay];unfold Pu.xS fL.val;rw[zY,zH,htw.1,htw.2,e1,e2,fL.E_ hO.2,fL.E_ hO.2]
end tM

namespace vu
theorem ok(d:aW)(n:au)(hl:d.length<=4294967296):c d n=ak/\v d n=Lib.fi (jf.p d n) d.length 0:=by
 refine out d n ?_;unfold vo b;refine oI (jf.p d n) d.length (λm (i:aG)=>l2 Lib.c9 (λ(_:aW) (_:au) (y7 _ _:az)=>aj y7) (λ(_:aW) (_:au) (_ _ _:az)=>aj (-1)) m d n 0 (d.length:az) (i:az)) aj (λm i hi hp=> ?_) (λm i hi hp=> ?_) (λm=> ?_) Lib.c9 (cU (by omega))
 ·unfold jf.p at hp;simp only[l2,r2,Lib.dE,Lib.cS,Lib.eG,hi,aR,aP,ay,PQ.v,hp]
 ·unfold jf.p at hp;simp only[l2,r2,Lib.dE,Lib.cS,Lib.eG,hi,aR,aP,ay,PQ.v,hp,aD,Lib.de hi (by omega:d.length<=9223372036854775807)]
 ·simp only[l2,r2,Lib.dE,bu,bm,aD]
end vu

namespace Av
theorem ok(d:aW)(n:au)(hl:d.length<=4294967296):c d n=ak/\v d n=Lib.fi (jf.p d n) d.length 0:=by have h:=vu.ok d n hl;exact out d n (by unfold vo b;rw[h.1,h.2,ay])
end Av

namespace Au
theorem ok(d:aW)(n:au)(hl:d.length<=4294967296):c d n=ak/\v d n=mK.val d n:=by
 refine out d n ?_;have h:=Av.ok d n hl;unfold vo b mK.val;rw[h.1,h.2,ay];by_cases hn:Lib.fi (jf.p d n) d.length 0<0
 ·rw[aJ hn,bC hn];rfl
 ·have hr:=mK.F7 d n hn;rw[aM hn,bM hn,aD,aJ hr.1,aJ hr.2];rfl
end Au

namespace rG
def nm:au:={data:= #[ax 107,ax 101,ax 112,ax 116]}
theorem both(rec:aW)(hr:rec.length<=20000):∀(d i:aG) (o:aW) (n m:aG),rec.length-i<=d->i<=rec.length->fL.Or o->o.length<=i->d<n->d<m->
  ∃L:aW,U118.l7 Lib.c9 (λ(_ _:az) (y6:aW) (_:aW)=>aj y6) n (rec.length:az) (i:az) o rec=aj L/\l7 Lib.c9 (λ(_:az) (y4 _:aW)=>aj y4) m (i:az) o rec=aj L/\fL.Or L/\L.length<=20000:=by
 have e1:∀t,xM.v t=jL.v t:=λ_=>rfl;intro d;induction d with
 |zero=>
  intro i o n m h1 h2 hO h3 h4 h5;obtain⟨n,rfl⟩:∃n',n=n'+1:=⟨n-1,by omega⟩
  obtain⟨m,rfl⟩:∃m',m=m'+1:=⟨m-1,by omega⟩
  have jG:decide ((i:az)<(rec.length:az))=false:=aM (by omega);exact⟨o,by simp only[U118.l7,U118.r7,jG,aD],by simp only[l7,r7,jG,aD],hO,by omega⟩
 |succ d ih=>
  intro i o n m h1 h2 hO h3 h4 h5;obtain⟨n,rfl⟩:∃n',n=n'+1:=⟨n-1,by omega⟩
  obtain⟨m,rfl⟩:∃m',m=m'+1:=⟨m-1,by omega⟩
  by_cases hi:i<rec.length
  ·have hw:bN ((i:az)+1)=((i+1:aG):az):=dh (by omega) (by omega);cases b8:(jL.v (bH (aw rec i 0))).2.2.2.2 with
   |false=>
    obtain⟨L,g1,g2,g3,g4⟩:=ih (i+1) o n m (by omega) hi hO (by omega) (by omega) (by omega);refine⟨L, ?_, ?_,g3,g4⟩
    ·simp only[U118.l7,U118.r7,Lib.dE,hi,aR,Lib.cS,aP,ay,Lib.eG,e1,b8,aD,hw];exact g1
    ·simp only[l7,r7,Lib.dE,hi,aR,Lib.cS,aP,ay,Lib.eG,b8,aD,hw];exact g2
   |true=>
    have p1:=fL.ok o (jL.v (bH (aw rec i 0))).1 (jL.v (bH (aw rec i 0))).2.1 (jL.v (bH (aw rec i 0))).2.2.1 (jL.v (bH (aw rec i 0))).2.2.2.1 (by omega);have p2:=tM.ok o (jL.v (bH (aw rec i 0))).1 (jL.v (bH (aw rec i 0))).2.1 (jL.v (bH (aw rec i 0))).2.2.1 (jL.v (bH (aw rec i 0))).2.2.2.1 hO (by omega);have p3:=fL.vQ hO (jL.v (bH (aw rec i 0))).1 (jL.v (bH (aw rec i 0))).2.1 (jL.v (bH (aw rec i 0))).2.2.1 (jL.v (bH (aw rec i 0))).2.2.2.1;obtain⟨L,g1,g2,g3,g4⟩:=ih (i+1) _ n m (by omega) hi p3.1 (by omega) (by omega) (by omega);refine⟨L, ?_, ?_,g3,g4⟩
    ·simp only[U118.l7,U118.r7,Lib.dE,hi,aR,Lib.cS,aP,ay,Lib.eG,e1,b8,p2.1,p2.2,hw];exact g1
    ·simp only[l7,r7,Lib.dE,hi,aR,Lib.cS,aP,ay,Lib.eG,b8,p1.1,p1.2,hw];exact g2
  ·have jG:decide ((i:az)<(rec.length:az))=false:=aM (by omega);exact⟨o,by simp only[U118.l7,U118.r7,jG,aD],by simp only[l7,r7,jG,aD],hO,by omega⟩
theorem same(d:aW)(hd:d.length<=1048576):∃L:aW,(c d=ak/\v d=L)/\(U118.c d=ak/\U118.v d=L)/\(∀y∈L,y.length=4)/\L.length<=20000:=by
 have k1:=dF.ok d (by omega);have k2:=zg.ok d (by omega);cases hv:dF.val d with
 |false=>
  refine⟨[],out d ?_,U118.out d ?_,λy hy=>(by cases hy),bL _⟩
  ·unfold vo b;rw[k1.1,k1.2,hv];rfl
  ·unfold U118.vo U118.b;rw[k2.1,k2.2,hv];rfl
 |true=>
  have k3:=mK.ok d nm (by omega);have k4:=Au.ok d nm (by omega);obtain⟨R,u1,u2,u3⟩:=rJ.same (mK.val d nm).1;obtain⟨L,g1,g2,g3,g4⟩:=both R.1 u3 R.1.length 0 [] Lib.c9 Lib.c9 (by omega) (bL _) ⟨gJ,λy hy=>(by cases hy)⟩ (bL _) (cU (by omega)) (cU (by omega));refine⟨L,out d ?_,U118.out d ?_,λy hy=>(by rw[<-g3.2 y hy];rfl),g4⟩
  ·unfold nm at k3 u1;unfold vo b;rw[k1.1,k1.2,hv,ay,ba,aD,k3.1,ay,k3.2,u1.1,ay,u1.2];exact g2
  ·unfold nm at k4 u2;unfold U118.vo U118.b;rw[k2.1,k2.2,hv,ay,ba,aD,k4.1,ay,k4.2,u2.1,ay,u2.2];exact g1
end rG

namespace jI
def kept:au:={data:= #[ax 107,ax 101,ax 112,ax 116]}
def mA(f:au):aW:=[[CV.i ar 1,CV.s kept,CV.s f,CV.s {data:= #[]}],[CV.i ar 2,CV.s kept,CV.s {data:= #[]},CV.s {data:= #[]}]]
def val(k:au)(s l:az)(b:au):aW×aY:=if iM.v k s l b=ak then(mA (fU.fr (jP.rR k s l b)),ak)else([],aq)
end jI

namespace jZ
open Lib (rd re rs el Fi En)
open eH (uY kM act mA FY put without ra Ac nr)
open gG (So l8 fT)
open TZ (fs Stop)
abbrev qu:au:={data:= #[ax 107,ax 101,ax 112,ax 116]}
def rR(e:En):au:=jP.rR e.k e.st e.li e.bo
def Dd(e:En):aY:=iM.v e.k e.st e.li e.bo
def Jk(e:En):au:=fU.fr (rR e)
def tx(es:aA En):au:=fs (es.map rR)
def kp(es:aA En):aA En:=es.foldl l8 []
theorem Vm(es:aA En)(e:En):kp (es++[e])=l8 (kp es) e:=by unfold kp;rw[pW];rfl
theorem abe(a b:aA au):fs (a++b)=fs a++fs b:=by
 induction a with
 |nil=>exact oX.symm
 |cons x a ih=>rw[Al];show fU.fr x++fs (a++b)=fU.fr x++fs a++fs b;rw[ih,BR]
theorem WZ(es:aA En)(e:En):tx (es++[e])=tx es++Jk e:=by unfold tx;rw[dm,abe];show fs (es.map rR)++(fU.fr (rR e)++⟨#[]⟩)=_;rw[show(⟨#[]⟩:au)=FL from rfl,pT];rfl
theorem W0{e:En}(h:Dd e=ak):1<=(rR e).size/\(rR e).size<=1000:=⟨iz.FD h,iz.wk h⟩
theorem yt{en:aA En}(h:So en)(e:En):So (l8 en e):=by have:=(fL.vQ (gG.Bn h) e.k e.st e.li e.bo).1.1;rw[gG.sH]at this;unfold Lib.re at this;rw[jY]at this;exact this
theorem mV{en:aA En}{x e:En}:x∈l8 en e↔x=e\/(x∈en/\x.k≠e.k):=by
 unfold l8;simp only[a_,du,aZ,dG,ij,gM];constructor
 ·rintro ((⟨h1,h2⟩|rfl)|⟨h1,h2⟩)
  ·refine .inr ⟨h1,λe2=> ?_⟩;rw[e2]at h2;unfold fT at h2;rw[fL.oi]at h2;cases h2
  ·exact .inl rfl
  ·exact .inr ⟨h1,h2.2⟩
 ·rintro (rfl|⟨h1,h2⟩)
  ·exact .inl (.inr rfl)
  ·cases hl:fT x.k e.k with
   |true=>exact .inl (.inl ⟨h1,rfl⟩)
   |false=>exact .inr ⟨h1,rfl,h2⟩
theorem JB{es:aA En}{x:En}(h:x∈kp es):x∈es:=by
 have:∀(es o:aA En),x∈es.foldl l8 o->x∈o\/x∈es:=by
  intro es;induction es with
  |nil=>intro o h;exact .inl h
  |cons e es ih=>
   intro o h;rcases ih _ h with h|h
   ·rcases mV.1 h with rfl|h
    ·exact .inr (by simp)
    ·exact .inl h.1
   ·exact .inr (by simp[h])
 rcases this es [] h with h|h
 ·cases h
 ·exact h
theorem Q4(es:aA En):(kp es).length<=es.length:=by
 have:∀(es o:aA En),So o->(es.foldl l8 o).length<=o.length+es.length:=by
  intro es;induction es with
  |nil=>intro o h;exact cu _
  |cons e es ih=>intro o h;have:=ih _ (yt h e);have:=gG.tn o e h;simp only[B_,c7];omega
 have:=this es [] gJ;rw[ju,bT]at this;exact this
theorem fileAt(d:aA Fi)(n:au):mK.val (rd d) n=match d.find? (λx=>decide (x.n=n))with|some f=>(f.t,ak)|none=>(⟨#[]⟩,aq):=by
 unfold mK.val;rw[gq];rcases km.find d n with ⟨e1,e2⟩|⟨i,hi,e1,e2⟩
 ·rw[e1,e2];rfl
 ·rw[e1,e2,bM (by omega),dA,wd1 hi];rfl
theorem apK(es:aA En)(he:∀e∈es,Dd e=ak)(hl:es.length<=20000):∀(d i n:aG) (o:aA En),es.length-i<=d->i<=es.length->So o->o.length<=i->d<n->
  U118.l7 Lib.c9 (λ(_ _:az) (y6:aW) (_:aW)=>aj y6) n (es.length:az) (i:az) (re o) (rs (es.map rR))=aj (re ((es.drop i).foldl l8 o)):=by
 have e1:∀t,xM.v t=jL.v t:=λ_=>rfl;intro d;induction d with
 |zero=>
  intro i n o h1 h2 hO h3 h5;obtain⟨n,rfl⟩:∃n',n=n'+1:=⟨n-1,by omega⟩
  have:i=es.length:=by omega
  subst this;simp only[U118.l7,U118.r7,Lib.dE,bu,bm,aD,dq,Uf]
 |succ d ih=>
  intro i n o h1 h2 hO h3 h5;obtain⟨n,rfl⟩:∃n',n=n'+1:=⟨n-1,by omega⟩
  by_cases hi:i<es.length
  ·have EY:i<(es.map rR).length:=by simpa using hi
   have hk:=he _ (bD hi);have hr:jL.v (rR es[i])=(es[i].k,es[i].st,es[i].li,es[i].bo,ak):=jL.enc _ _ _ _ hk;have hp:=tM.ok (re o) es[i].k es[i].st es[i].li es[i].bo (gG.Bn hO) (by rw[dU];omega);rw[gG.sH o es[i]]at hp;have hg:(es.map rR)[i]=rR es[i]:=by simp
   simp only[U118.l7,U118.r7,Lib.dE,hi,eJ,bQ,aR,Lib.cS,aP,ay,Lib.eG,TT EY,hg,bH,e1,hr,hp.1,hp.2,Lib.de hi (by omega:es.length<=9223372036854775807)];rw[dJ hi,B_];exact ih (i+1) n _ (by omega) hi (yt hO _) (by have:=gG.tn o es[i] hO;omega) (by omega)
  ·have:i=es.length:=by omega
   subst this;simp only[U118.l7,U118.r7,Lib.dE,bu,bm,aD,dq,Uf]
theorem fk(d:aA Fi)(es:aA En)(z:au)(hd:uY d=ak)(hf:(mK.val (rd d) qu).1=tx es++z)(he:∀e∈es,Dd e=ak)(hz:Stop z):
  (U118.c (rd d)=ak/\U118.v (rd d)=re (kp es))/\(rG.c (rd d)=ak/\rG.v (rd d)=re (kp es)):=by
 obtain⟨q1,q2,q3⟩:=kM.1 hd;have hs:(tx es++z).size<=20000:=by
  rw[<-hf,fileAt];cases h:d.find? (λx=>decide (x.n=qu))with
  |none=>exact bL _
  |some f=>have:=q2 f (FO h);unfold nr at this;simp only[aK,bf,dG,gM]at this;show f.t.size<=20000;omega
 have hl:es.length<=20000:=by
  have:∀es:aA En,es.length<=(tx es).size:=by
   intro es;induction es with
   |nil=>exact cu _
   |cons e es ih=>
    have:(tx (e::es)).size=(Jk e).size+(tx es).size:=dC;have h2:4<=(Jk e).size:=by unfold Jk fU.fr;rw[dC,dC,TZ.oq];omega
    rw[this,c7];omega
  have h2:=this es;rw[dC]at hs;omega
 have u:=TZ.ok (es.map rR) (λx hx=>by obtain⟨e,h,rfl⟩:=cJ.1 hx;have:=W0 (he e h);omega) z hz hs;have k2:=km.okc d (by omega);have k4:=Au.ok (rd d) qu (by rw[gq];omega);have h1:=U118.out (rd d) (x:=re (kp es)) (by unfold U118.vo U118.b;rw[k2.1,k2.2,hd,ay,ba,aD,k4.1,ay,k4.2,hf];have hu:=u.1;rw[show fs (es.map rR)=tx es from rfl]at hu;rw[hu.1,ay,hu.2];dsimp only;rw[eJ,bQ];have:=apK es he hl es.length 0 Lib.c9 [] (by omega) (bL _) gJ (bL _) (cU (by omega));rw[fB]at this;exact this);obtain⟨L,s1,s2,_⟩:=rG.same (rd d) (by rw[gq];omega);refine⟨h1,s1.1, ?_⟩
 rw[s1.2,<-s2.2,h1.2]
def base:aC au->aA Fi
 |none=>[]|some t=>[⟨qu,t,t.size⟩]
def bt:aC au->au|none=>⟨#[]⟩|some t=>t
def yQ(f:au):aA Ac:=[⟨1,qu,f,⟨#[]⟩⟩,⟨2,qu,⟨#[]⟩,⟨#[]⟩⟩]
theorem ok1(f:Fi):uY [f]=nr f:=by
 cases h:nr f with
 |true=>exact kM.2 ⟨by simp,λg hg=>by rw[aZ.1 hg];exact h,by unfold eH.SoD;simp⟩
 |false=>
  cases h2:uY [f]with
  |false=>rfl
  |true=>have:=(kM.1 h2).2.1 f (by simp);rw[h]at this;cases this
theorem abd(t:au)(k:az)(h1:t.size<=20000)(h2:0<=k/\k<=(t.size:az)):nr ⟨qu,t,k⟩=true:=by unfold nr;have:((qu.size:aG):az)=4:=rfl;rw[this,aJ (by omega),aJ h2,aM (by dsimp only;omega)];rfl
theorem sW{o:aC au}(h:(bt o).size<=20000):uY (base o)=true:=by
 cases o with
 |none=>exact kM.2 ⟨bL _,⟨λf hf=>(by cases hf),gJ⟩⟩
 |some t=>exact(ok1 _).trans (abd t _ h ⟨by omega,by omega⟩)
theorem vW{g f:Fi}(h:g.n=f.n):put [g] f=[f]:=by unfold put;rw[cm (by rw[h,eH.irrefl];simp),cm (by simp[h])];rfl
theorem aaM{o:aC au}{f:au}(h:(bt o).size+f.size<=20000):act (base o) 1 qu f ⟨#[]⟩=aj [⟨qu,bt o++f,(bt o).size⟩]:=by
 unfold act;rw[sW (by omega),show eH.la 1 f ⟨#[]⟩=ak from by unfold eH.la;simp,aP,ay];have hs:(bt o++f).size<=20000:=by rw[dC];omega
 have hn:FY (base o) 1 qu f ⟨#[]⟩=aj [⟨qu,bt o++f,(bt o).size⟩]:=by
  cases o with
  |none=>unfold FY;show(if(1:az)=1 then aj (put [] ⟨qu,f,0⟩)else ao)=_;rw[bC rfl];show aj [(⟨qu,f,0⟩:Fi)]=aj [⟨qu,(⟨#[]⟩:au)++f,((⟨#[]⟩:au).size:az)⟩];rw[show(⟨#[]⟩:au)++f=f from oX];rfl
  |some t=>unfold FY;rw[show(base (aj t)).find? (λx=>decide (x.n=qu))=aj ⟨qu,t,t.size⟩from by unfold base;simp];dsimp only;rw[bC rfl];exact mi aj (vW rfl)
 rw[hn];dsimp only;rw[ok1,abd _ _ hs ⟨by omega,by rw[dC];omega⟩];rfl
theorem Vl{t:au}{k:az}(h:t.size<=20000)(hk:0<=k/\k<=(t.size:az)):act [⟨qu,t,k⟩] 2 qu ⟨#[]⟩ ⟨#[]⟩=aj (base (aj t)):=by
 unfold act;rw[ok1,abd _ _ h hk,show eH.la 2 ⟨#[]⟩ ⟨#[]⟩=ak from by unfold eH.la;simp,aP,ay];have hn:FY [⟨qu,t,k⟩] 2 qu ⟨#[]⟩ ⟨#[]⟩=aj (base (aj t)):=by unfold FY;rw[show([⟨qu,t,k⟩]:aA Fi).find? (λx=>decide (x.n=qu))=aj ⟨qu,t,k⟩from by simp];dsimp only;rw[bM (by omega),bC rfl];exact mi aj (vW rfl)
 rw[hn];dsimp only;rw[sW (o:=aj t) h];rfl
theorem Q0{o:aC au}{f:au}(h:(bt o).size+f.size<=20000):mA (base o) 0 (yQ f)=(base (aj (bt o++f)),2):=by have hs:(bt o++f).size=(bt o).size+f.size:=dC;unfold yQ mA;dsimp only;rw[aaM h];dsimp only;unfold mA;dsimp only;rw[Vl (by omega) ⟨by omega,by omega⟩];rfl
theorem MC(o:aC au):(mK.val (rd (base o)) qu).1=bt o:=by
 rw[fileAt];cases o with
 |none=>rfl
 |some t=>rw[show(base (aj t)).find? (λx=>decide (x.n=qu))=aj ⟨qu,t,t.size⟩from by unfold base;simp];rfl
def kd(es:aA En):aA Fi:=base (match es with|[]=>ao|_=>aj (tx es))
theorem ao5(es:aA En):∃o,kd es=base o/\bt o=tx es:=by
 cases es with
 |nil=>exact⟨ao,rfl,rfl⟩
 |cons e es=>exact⟨aj (tx (e::es)),rfl,rfl⟩
end jZ

namespace eW
def has(l:aA au)(k:au):aY:=l.any λx=>decide (x=k)
def without(l:aA au)(k:au):aA au:=l.filter λx=> !decide (x=k)
theorem gp{l:aA au}{k:au}:has l k=ak↔k∈l:=by unfold has;simp
theorem jR{l:aA au}{k:au}:has l k=aq↔k∉l:=by rw[<-gp];cases has l k<;>simp
theorem u_{l:aA au}{k:au}(h:has l k=aq):without l k=l:=by unfold without;rw[eN];intro x hx;have:=jR.1 h;simp;intro e;subst e;exact this hx
theorem gZ{l:aA au}{k:au}:(without l k).length<=l.length:=eK ..
theorem oS{l:aA au}{k:au}(h:has l k=ak):(without l k).length<l.length:=by unfold without;refine List.length_filter_lt_length_iff_exists.2 ⟨k,gp.1 h,by simp⟩
theorem ok(l:aA au)(k:au)(hl:l.length<=4294967296):c (Lib.rs l) k=ak/\v (Lib.rs l) k=has l k:=by
 refine out _ _ ?_;unfold vo b
 have:=Ay l (λx=>decide (x=k)) (λm (i:aG)=>l2 Lib.c9 (λ(_:aW) (_:au) (y6:aY) (_:az)=>aj y6) (λ(_:aW) (_:au) (_:aY) (_:az)=>aj aq) m (Lib.rs l) k aq (i:az)) (aj ak) (aj aq)
  (λm i h hp=>by simp only[l2,r2,eJ,Lib.dE,h,aR,Lib.cS,aP,ay,Lib.eG,TT h,bH,Lib.fE,hp])
  (λm i h hp=>by simp only[l2,r2,eJ,Lib.dE,h,aR,Lib.cS,aP,ay,Lib.eG,TT h,bH,Lib.fE,hp,aD,Lib.de h (by omega:l.length<=9223372036854775807)])
  (λm=>by simp only[l2,r2,eJ,Lib.dE,bu,bm,aD]) Lib.c9 (cU (by omega))
 refine this.trans ?_;unfold has;cases l.any λx=>decide (x=k)<;>rfl
end eW

namespace uK
theorem ok(l:aW)(hl:l.length<=4294967296):c l=ak/\v l=l:=by refine out l ?_;unfold vo b;rw[show bW (aT [Ck.i ar] 0)+l.length=l.length by simp[aT],Lib.cy (by omega) (by omega)];rfl
end uK

namespace iX
open Lib (rr)
def n5(s:aA (aA az)):Prop:=s.length<=1048576/\∀q∈s,q.length<=1048576
theorem run(N:aG)(K0:aW->az->az->az->az->aC R)(K1:aW->az->az->az->az->aW->aC R)(s:aA (aA az))(z a:az)(hf:n5 s)(m:aG)(hm:s.length+1<m)(kr:aW->aC R)
  (h0:s=[]->K0 (rr s) 0 0 z a=kr []) (h1:K1 (rr s) s.length s.length z a (rr s)=kr (rr s)):l3 N K0 K1 m (rr s) (s.length:az) 0 z a=kr (rr s):=by
 obtain⟨m,rfl⟩:∃m',m=m'+1:=⟨m-1,by omega⟩
 have hci:∀i (h:i<s.length),uK.c (Lib.ri s[i])=ak/\uK.v (Lib.ri s[i])=Lib.ri s[i]:=λi h=>uK.ok _ (by rw[Lib.gY];have:=hf.2 _ (bD h);omega);by_cases hs:s=[]
 ·subst hs;simp only[l3,r3,ju,TA,Int.lt_irrefl,bm,aD];exact h0 rfl
 ·have hp:0<s.length:=KD.2 hs;have key:=ml (R:=R) s.length (λm i (x:aW)=>tT N K0 K1 m (rr s) (s.length:az) (i:az) z a x) (λi=>rr (s.take i)) (kr (rr s)) (λm i h=>by
   have hl:=hf.1;simp only[tT,zV,Lib.dE,h,aR,ay,Lib.cS,bj,gA,Lib.eG,Ij h,jx,(hci i h).1,(hci i h).2,o9,bw];rw[Lib.cy (by rw[eu];omega) (by rw[eu];omega),ay,Lib.de h (by omega)];have:=ot (λq=>[CV.l 3 (Lib.ri q)]) s i h;unfold rr;rw[<-this]) (λm=>by
   simp only[tT,zV,Lib.dE,bu,bm,aD,fH];exact h1) m 1 hp (by omega)
  simp only[l3,r3,aJ (show(0:az)<(s.length:az)by omega),ay,aP,gA,show decide ((0:az)<=0)=ak from rfl];have e:=hci 0 hp;have e0:=Ij (l:=s) hp;simp only[show bc 0=0 from rfl,e0,jx,e.1,e.2,ay,o9,gk];rw[show bN (0+1)=((1:aG):az)from rfl];refine Eq.trans ?_ key;have:=ot (λq=>[CV.l 3 (Lib.ri q)]) s 0 hp;unfold rr;rw[show(0+1)=1 from rfl]at this;rw[<-this];rfl
theorem ok(s:aA (aA az))(a:az)(hf:n5 s):c (rr s) a=ak/\v (rr s) a=(rr s,a):=by refine out _ _ ?_;unfold vo b;rw[gA];exact run Lib.c9 (λ_ _ _ _ y=>aj ([],y)) (λ_ _ _ _ tz F_=>aj (F_,tz)) s 0 a hf Lib.c9 (cU (by have:=hf.1;omega)) (λx=>aj (x,a)) (λ_=>rfl) rfl
end iX

namespace fy
open Lib (rr)
def LG(n:az):aY:=decide (0<=n/\n<=15)
def rD(q:aA az):aY:=decide (q.length=16)&&q.all LG
def nH(s:aA (aA az))(a:az):aY:=decide (s.length=3)&&(decide (0<=a/\a<=63)&&s.all rD)
theorem eQ(n a b:az):kG.v n a b=decide (a<=n/\n<=b):=by
 unfold kG.v;by_cases h1:a<=n
 ·rw[aJ (show n≥a from h1),ay];by_cases h2:n<=b<;>simp[h1,h2]
 ·rw[aM (show¬n≥a from h1),aD];simp[h1]
theorem ok(s:aA (aA az))(a:az)(hf:iX.n5 s):c (rr s) a=ak/\v (rr s) a=nH s a:=by
 refine out _ _ ?_;unfold vo b nH;rw[gA];by_cases h3:¬s.length=3
 ·rw[show((s.length:az) !=3)=ak by simp;omega,aM h3];rfl
 have h3:s.length=3:=Decidable.not_not.1 h3;rw[show((s.length:az) !=3)=aq by simp;omega,aJ h3,aD,eQ];cases h4:decide (0<=a/\a<=63)with
 |false=>rfl
 |true=>
  rw[ba,aD,bj,bj];have inner:∀i (h:i<s.length) (K0 K1:aY->az->az->aW->az->aC aY) (kf kt:aC aY) (h0:∀j:az,K0 aq i j (rr s) a=kf) (h1:∀j:az,K1 aq i j (rr s) a=kt),l9 Lib.c9 K0 K1 Lib.c9 aq (i:az) 0 (rr s) a=bif(s[i]).all LG then kt else kf:=λi h K0 K1 kf kt h0 h1=>
   oE (s[i]) LG (λm (j:aG)=>l9 Lib.c9 K0 K1 m aq (i:az) (j:az) (rr s) a) kf kt
    (λm j hj hp=>by have hl:=hf.2 _ (bD h);unfold LG at hp;simp only[l9,r9,gA,Lib.dE,h,aR,Lib.cS,aP,ay,Lib.eG,Ij h,jx,Lib.gY,hj,Oa hj,bY,eQ,hp,ba,aD,Lib.de hj (by omega:s[i].length<=9223372036854775807)])
    (λm j hj hp=>by unfold LG at hp;simp only[l9,r9,gA,Lib.dE,h,aR,Lib.cS,aP,ay,Lib.eG,Ij h,jx,Lib.gY,hj,Oa hj,bY,eQ,hp,bX,h0])
    (λm=>by simp only[l9,r9,gA,Lib.dE,h,aR,Lib.cS,aP,ay,Lib.eG,Ij h,jx,Lib.gY,bu,bm,aD,h1]) Lib.c9 (cU (by have:=hf.2 _ (bD h);omega))
  have key:=oE s rD (λm (i:aG)=>l4 Lib.c9 (λ(B6:aY) (_:az) (_:aW) (_:az)=>aj B6) (λ(_:aY) (_:az) (_:aW) (_:az)=>aj ak) m aq (i:az) (rr s) a) (aj aq) (aj ak)
   (λm i h hp=>by unfold rD at hp;rw[aK]at hp;have hl:=b9 hp.1;simp only[l4,r4,gA,Lib.dE,h,aR,Lib.cS,aP,ay,Lib.eG,Ij h,jx,Lib.gY,hl,show(((16:aG):az) !=16)=aq from rfl,aD];rw[inner i h _ _ _ _ (λ_=>rfl) (λ_=>rfl),hp.2,ay,Lib.de h (by omega)])
   (λm i h hp=>by
    unfold rD at hp;by_cases hl:s[i].length=16
    ·rw[aJ hl,bj]at hp;simp only[l4,r4,gA,Lib.dE,h,aR,Lib.cS,aP,ay,Lib.eG,Ij h,jx,Lib.gY,hl,show(((16:aG):az) !=16)=aq from rfl,aD];rw[inner i h _ _ _ _ (λ_=>rfl) (λ_=>rfl),hp,aD]
    ·simp only[l4,r4,gA,Lib.dE,h,aR,Lib.cS,aP,ay,Lib.eG,Ij h,jx,Lib.gY,show((s[i].length:az) !=16)=ak by simp;omega])
   (λm=>by simp only[l4,r4,gA,Lib.dE,bu,bm,aD]) Lib.c9 (cU (by omega))
  refine key.trans ?_;cases s.all rD<;>rfl
end fy

namespace jm
open Lib (rr rs)
open eW (has without gp jR)
def eB(k:au):aY:=decide (1<=(k.size:az)/\(k.size:az)<=30)
def Jz(l:aA au)(i:aG):aY:=eB (l.getD i ⟨#[]⟩)&& !has (l.take i) (l.getD i ⟨#[]⟩)
def mO(l:aA au):aY:=(cO l.length).all (Jz l)
def rQ(w m:aA au)(s:aA (aA az))(a:az):aY:=mO (w++m)&&(decide (w.length<=2)&&(decide (m.length<=4)&&fy.nH s a))
theorem iw(k:au):Gr.v k=eB k:=fy.eQ _ _ _
theorem wq(l:aA au)(i:aG):eT (Lib.rs l) (bc 0) i=Lib.rs (l.take i):=by unfold eT Lib.rs;rw[show bc 0=0 from rfl,fB,uD,List.map_take]
theorem ok(w m:aA au)(s:aA (aA az))(a:az)(hw:w.length<=1048576)(hm:m.length<=1048576)(hf:iX.n5 s):c (rs w) (rs m) (rr s) a=ak/\v (rs w) (rs m) (rr s) a=rQ w m s a:=by
 refine out _ _ _ _ ?_;have h2:=fy.ok s a hf;unfold vo b;have r1:cK (bW (aT [Ck.s] 0)+bW (rs w)) 16=true:=Lib.cy (by simp[aT,eJ];omega) (by simp[aT,eJ];omega);have r2:cK (bW (aT [Ck.s] 0++rs w)+bW (rs m)) 16=true:=Lib.cy (by simp[aT,eJ];omega) (by simp[aT,eJ];omega);have e:aT [Ck.s] 0++rs w++rs m=rs (w++m):=by rw[show aT [Ck.s] 0++rs w=rs w from rfl];unfold Lib.rs;rw[dm]
 rw[r1,r2,ay,ay,e];have hl:(w++m).length<=2097152:=by rw[bP];omega
 have gQ:∀i,i<(w++m).length->eW.c (rs ((w++m).take i)) ((w++m).getD i ⟨#[]⟩)=ak/\eW.v (rs ((w++m).take i)) ((w++m).getD i ⟨#[]⟩)=has ((w++m).take i) ((w++m).getD i ⟨#[]⟩):=λi hi=>eW.ok _ _ (by rw[eu];omega);have hk:∀i (hi:i<(w++m).length),bH (aw (rs (w++m)) i 0)=(w++m).getD i ⟨#[]⟩:=λi hi=>by rw[TT hi,show(w++m).getD i ⟨#[]⟩=(w++m)[i]by rw[cL,eI hi];rfl];rfl
 generalize hL:w++m=L at hl gQ hk
 have key:=jU (Jz L) L.length (λn (i:aG)=>l3 Lib.c9 (λ(y7:aY) (_:az) (_ _ _:aW) (_:az) (_:aW)=>aj y7) (λ(_:aY) (_:az) (Tn FH FI:aW) (B6:az) (_:aW)=>bif(decide ((↑(bW Tn):az)<=2))then(bif(decide ((↑(bW FH):az)<=4))then(bif(fy.c FI B6)then(aj (fy.v FI B6))else(ao))else(aj aq))else(aj aq)) n aq (i:az) (rs w) (rs m) (rr s) a (rs L)) (aj aq) (aj (decide (w.length<=2)&&(decide (m.length<=4)&&fy.nH s a)))
  (λn i hi hp=>by
   unfold Jz at hp;rw[aK,dG]at hp;have b1:iQ 0 (i:az) (L.length:az)=true:=by simp[iQ];omega
   simp only[l3,r3,eJ,Lib.dE,hi,aR,Lib.cS,aP,ay,Lib.eG,hk i hi,iw,hp.1,ba,aD,b1,wq,(gQ i hi).1,(gQ i hi).2,hp.2,Lib.de hi (by omega:L.length<=9223372036854775807)])
  (λn i hi hp=>by
   have b1:iQ 0 (i:az) (L.length:az)=true:=by simp[iQ];omega
   unfold Jz at hp;cases h1:eB (L.getD i ⟨#[]⟩)with
   |false=>simp only[l3,r3,eJ,Lib.dE,hi,aR,Lib.cS,aP,ay,Lib.eG,hk i hi,iw,h1,bX]
   |true=>rw[h1,bj,mb]at hp;simp only[l3,r3,eJ,Lib.dE,hi,aR,Lib.cS,aP,ay,Lib.eG,hk i hi,iw,h1,ba,aD,b1,wq,(gQ i hi).1,(gQ i hi).2,hp])
  (λn=>by simp only[l3,r3,eJ,Lib.dE,bu,bm,aD,h2.1,h2.2,ay];rw[show decide ((w.length:az)<=2)=decide (w.length<=2)by rw[ch];omega,show decide ((m.length:az)<=4)=decide (m.length<=4)by rw[ch];omega];cases decide (w.length<=2)<;>cases decide (m.length<=4)<;>rfl) Lib.c9 (cU (by omega))
 refine key.trans ?_;unfold rQ mO;rw[hL];cases (cO L.length).all (Jz L)<;>rfl
end jm

namespace rX
open Lib (rr rs)
open eW (has)
theorem ok(w m:aA au)(s:aW)(a:az)(k:au)(hw:w.length<=1048576)(hm:m.length<=1048576):c (rs w) (rs m) s a k=ak/\v (rs w) (rs m) s a k=(has w k||has m k):=by have h1:=eW.ok w k (by omega);have h2:=eW.ok m k (by omega);exact out _ _ _ _ _ (by unfold vo b;rw[h1.1,h1.2,h2.1,h2.2,ay,ay];cases has w k<;>rfl)
end rX

namespace m7
open Lib (rr rs re el qw tV tW tX En)
open eW (has)
open jm (rQ)
def tP(e:En):aY:=iM.v e.k e.st e.li e.bo
def FV(en:aA En)(w m:aA au)(i:aG):aY:=
 tP (el en i)&&((decide (i=0)||Go.Op.bytesLess (aL (el en (i-1)).k) (aL (el en i).k))&&(has w (el en i).k||has m (el en i).k))
def K8(en:aA En)(w m:aA au)(s:aA (aA az))(a:az):aY:=(cO en.length).all (FV en w m)&&(rQ w m s a&&decide (w.length+m.length=en.length))
theorem ok(i0:az)(en:aA En)(w m:aA au)(s:aA (aA az))(a:az)(r6 r7:aW)(i8:az)(he:en.length<=1048576)(hw:w.length<=1048576)(hm:m.length<=1048576)(hf:iX.n5 s):
  c i0 (re en) (rs w) (rs m) (rr s) a r6 r7 i8=ak/\v i0 (re en) (rs w) (rs m) (rr s) a r6 r7 i8=K8 en w m s a:=by
 refine out _ _ _ _ _ _ _ _ _ ?_;have h1:=jm.ok w m s a hw hm hf;have h2:=λk=>rX.ok w m (rr s) a k hw hm;unfold vo b
 have key:=jU (FV en w m) en.length (λn (i:aG)=>l2 Lib.c9 (λ(yA:aY) (_ _:az) (_ _ _ _:aW) (_:az) (_ _:aW) (_:az)=>aj yA) (λ(_:aY) (_ _:az) (Od Oe Gb Of:aW) (Og:az) (_ _:aW) (_:az)=>bif(jm.c Oe Gb Of Og)then(bif(jm.v Oe Gb Of Og)then(aj (decide ((↑(bW Od):az)=bN ((↑(bW Oe):az)+(↑(bW Gb):az)))))else(aj aq))else(ao)) n aq (i:az) i0 (re en) (rs w) (rs m) (rr s) a r6 r7 i8) (aj aq) (aj (rQ w m s a&&decide (w.length+m.length=en.length)))
  (λn i hi hp=>by
   unfold FV tP at hp;rw[aK,aK]at hp;obtain⟨p1,p2,p3⟩:=hp;by_cases hz:i=0
   ·subst hz;simp only[l2,r2,dU,Lib.dE,hi,aR,Lib.cS,aP,ay,Lib.eG,qw hi,tV hi,tW hi,tX hi,bH,bY,p1,ba,aD,aM (show¬(((0:aG):az)>0)by omega),(h2 _).1,(h2 _).2,p3,Lib.de hi (by omega:en.length<=9223372036854775807)]
   ·rw[aM hz,nK]at p2;have lK:i-1<en.length:=by omega
    simp only[l2,r2,dU,Lib.dE,hi,aR,Lib.cS,aP,ay,Lib.eG,qw hi,tV hi,tW hi,tX hi,bH,bY,p1,ba,aD,aJ (show(i:az)>0 by omega),lu (show 0<i by omega) (by omega),lK,qw lK,p2,(h2 _).1,(h2 _).2,p3,Lib.de hi (by omega:en.length<=9223372036854775807)])
  (λn i hi hp=>by
   unfold FV tP at hp;cases p1:iM.v (el en i).k (el en i).st (el en i).li (el en i).bo with
   |false=>simp only[l2,r2,dU,Lib.dE,hi,aR,Lib.cS,aP,ay,Lib.eG,qw hi,tV hi,tW hi,tX hi,bH,bY,p1,bX]
   |true=>
    rw[p1,bj]at hp;by_cases hz:i=0
    ·subst hz;rw[aJ rfl,y_,bj]at hp;simp only[l2,r2,dU,Lib.dE,hi,aR,Lib.cS,aP,ay,Lib.eG,qw hi,tV hi,tW hi,tX hi,bH,bY,p1,ba,bX,aD,aM (show¬(((0:aG):az)>0)by omega),(h2 _).1,(h2 _).2,hp]
    ·rw[aM hz,nK]at hp;have lK:i-1<en.length:=by omega
     cases p2:cf (aL (el en (i-1)).k) (aL (el en i).k)with
     |false=>simp only[l2,r2,dU,Lib.dE,hi,aR,Lib.cS,aP,ay,Lib.eG,qw hi,tV hi,tW hi,tX hi,bH,bY,p1,ba,bX,aD,aJ (show(i:az)>0 by omega),lu (show 0<i by omega) (by omega),lK,qw lK,p2]
     |true=>rw[p2,bj]at hp;simp only[l2,r2,dU,Lib.dE,hi,aR,Lib.cS,aP,ay,Lib.eG,qw hi,tV hi,tW hi,tX hi,bH,bY,p1,ba,bX,aD,aJ (show(i:az)>0 by omega),lu (show 0<i by omega) (by omega),lK,qw lK,p2,(h2 _).1,(h2 _).2,hp])
  (λn=>by simp only[l2,r2,dU,Lib.dE,bu,bm,aD,h1.1,h1.2,ay,eJ];rw[dh (x:=(w.length:az)+(m.length:az)) (by omega) (by omega),show decide ((en.length:az)=(w.length:az)+(m.length:az))=decide (w.length+m.length=en.length)by rw[ch];omega];cases rQ w m s a<;>rfl) Lib.c9 (cU (by omega))
 refine key.trans ?_;unfold K8;cases (cO en.length).all (FV en w m)<;>rfl
end m7

namespace m8
open Lib (rf el H6 F8 W2 yz TU TV Fe)
open jm (eB)
def nr(now:az)(f:Fe):aY:=eB f.k&&(decide ((f.t.size:az)<=400)&&(decide (1<=f.sta/\f.sta<=3)&&(decide (0<=f.li/\f.li<=999999)&&decide (0<=f.st/\f.st<=now))))
def lV(f g:Fe):aY:=decide (f.sta=1)&&(decide (g.sta=1)&&decide (f.k=g.k))
def apart(fe:aA Fe)(i:aG):aY:=(cO i).all λj=> !lV (el fe i) (el fe j)
theorem eQ(n a b:az):kG.v n a b=decide (a<=n/\n<=b):=fy.eQ n a b
theorem ok(i0:az)(r1 r2 r3 r4:aW)(i5:az)(fe:aA Fe)(r7:aW)(i8:az)(i:aG)(hi:i<fe.length)(hf:fe.length<=1048576):
  c i0 r1 r2 r3 r4 i5 (rf fe) r7 i8 (i:az)=ak/\v i0 r1 r2 r3 r4 i5 (rf fe) r7 i8 (i:az)=(nr i0 (el fe i)&&apart fe i):=by
 refine out _ _ _ _ _ _ _ _ _ _ ?_;unfold vo b
 have key:=jU (λj=> !lV (el fe i) (el fe j)) i (λn (j:aG)=>l5 Lib.c9 (λ(_:az) (FI:aY) (_ _:az) (_ _ _ _:aW) (_:az) (_ _:aW) (_:az) (_ _:au) (_ _ _:az)=>aj FI) (λ(_:az) (_:aY) (_ _:az) (_ _ _ _:aW) (_:az) (_ _:aW) (_:az) (_ _:au) (_ _ _:az)=>aj ak) n (i:az) aq (j:az) i0 r1 r2 r3 r4 i5 (rf fe) r7 i8 (el fe i).k (el fe i).t (el fe i).sta (el fe i).li (el fe i).st) (aj aq) (aj ak)
  (λn j hj hp=>by
   have jF:j<fe.length:=by omega
   rw[dG]at hp;unfold lV at hp;have e:decide ((el fe j).k=(el fe i).k)=decide ((el fe i).k=(el fe j).k):=by rw[ch];exact GV
   simp only[l5,r5,Lib.dE,hj,aR,Lib.cS,aP,ay,Lib.eG,dL,jF,H6 jF,yz jF,bH,bY,Lib.fE,e,Lib.de hj (by omega:i<=9223372036854775807)];revert hp;cases decide ((el fe i).k=(el fe j).k)<;>cases decide ((el fe j).sta=1)<;>cases decide ((el fe i).sta=1)<;>intro hp<;>first|rfl|cases hp)
  (λn j hj hp=>by
   have jF:j<fe.length:=by omega
   rw[mb]at hp;unfold lV at hp;rw[aK,aK]at hp;have e:decide ((el fe j).k=(el fe i).k)=decide ((el fe i).k=(el fe j).k):=by rw[ch];exact GV
   simp only[l5,r5,Lib.dE,hj,aR,Lib.cS,aP,ay,Lib.eG,dL,jF,H6 jF,yz jF,bH,bY,Lib.fE,e,hp.1,hp.2.1,hp.2.2])
  (λn=>by simp only[l5,r5,Lib.dE,bu,bm,aD]) Lib.c9 (cU (by omega))
 simp only[dL,Lib.dE,hi,aR,Lib.cS,aP,ay,Lib.eG,H6 hi,F8 hi,W2 hi,TU hi,TV hi,bH,bY,eQ,jm.iw];rw[show l5 Lib.c9 _ _ Lib.c9 (i:az) aq 0 i0 r1 r2 r3 r4 i5 (rf fe) r7 i8 (el fe i).k (el fe i).t (el fe i).sta (el fe i).li (el fe i).st=_ from key];unfold nr apart;rw[show decide (((el fe i).t.size:az)>400)= !decide (((el fe i).t.size:az)<=400)by rw[<-decide_not,ch];omega];cases eB (el fe i).k<;>cases decide (((el fe i).t.size:az)<=400)<;>cases decide (1<=(el fe i).sta/\(el fe i).sta<=3)<;>cases decide (0<=(el fe i).li/\(el fe i).li<=999999)<;>cases decide (0<=(el fe i).st/\(el fe i).st<=i0)<;>cases (cO i).all (λj=> !lV (el fe i) (el fe j))<;>rfl
end m8

namespace pY
open Lib (rr rs re rf rc el En Fe Cl Px Ki Te Tf Tg Th Ti Tj)
open jm (eB)
open m7 (K8)
open m8 (nr apart eQ)
def FT(now:az)(nf:aG)(cl:aA Cl)(i:aG):aY:=
 decide (1<=(el cl i).id/\(el cl i).id<=9)&&((decide (i=0)||decide ((el cl (i-1)).id<(el cl i).id))&&(eB (el cl i).k&&(decide (1<=(el cl i).sta/\(el cl i).sta<=3)&&(decide (0<=(el cl i).fe/\(el cl i).fe<=(nf:az))&&(decide (((el cl i).got.size:az)<=400)&&(decide (0<=(el cl i).fr/\(el cl i).fr<=now)&&decide (0<=(el cl i).age)))))))
def iZ(p:Px):aY:=
 decide (1<=p.now/\p.now<=1000000000)&&(K8 p.en p.w p.m p.s p.a&&(decide (p.fe.length<=20)&&(decide (p.cl.length<=6)&&(decide (0<=p.hits/\p.hits<=1000000000)&&((cO p.fe.length).all (λi=>nr p.now (el p.fe i)&&apart p.fe i)&&(cO p.cl.length).all (FT p.now p.fe.length p.cl))))))
theorem step(N:aG)(g k0 k1:aY->az->az->aW->aW->aW->aW->az->aW->aW->az->aC R)(i0:az)(q1 q2 q3 q4:aW)(i5:az)(fe:aA Fe)(cl:aA Cl)(i8:az)(i:aG)(hi:i<cl.length)(hl:cl.length<=1048576):
  r9 N g k0 k1 aq (i:az) i0 q1 q2 q3 q4 i5 (rf fe) (rc cl) i8=bif FT i0 fe.length cl i then g aq ((i+1:aG):az) i0 q1 q2 q3 q4 i5 (rf fe) (rc cl) i8 else k0 aq (i:az) i0 q1 q2 q3 q4 i5 (rf fe) (rc cl) i8:=by
 unfold FT;have e1:decide (((el cl i).got.size:az)>400)= !decide (((el cl i).got.size:az)<=400):=by rw[<-decide_not,ch];omega
 have e2:decide ((el cl i).age<0)= !decide (0<=(el cl i).age):=by rw[<-decide_not,ch];omega
 by_cases hz:i=0
 ·subst hz;simp only[r9,eR,dL,Lib.dE,hi,aR,Lib.cS,aP,ay,Lib.eG,Ki hi,Te hi,Tf hi,Tg hi,Th hi,Ti hi,Tj hi,bH,bY,eQ,jm.iw,aM (show¬(((0:aG):az)>0)by omega),aD,e1,e2,Lib.de hi (by omega:cl.length<=9223372036854775807),y_,bj];cases decide (1<=(el cl 0).id/\(el cl 0).id<=9)<;>cases eB (el cl 0).k<;>cases decide (1<=(el cl 0).sta/\(el cl 0).sta<=3)<;>cases decide (0<=(el cl 0).fe/\(el cl 0).fe<=(fe.length:az))<;>cases decide (((el cl 0).got.size:az)<=400)<;>cases decide (0<=(el cl 0).fr/\(el cl 0).fr<=i0)<;>cases decide (0<=(el cl 0).age)<;>rfl
 ·have lK:i-1<cl.length:=by omega
  have e3:decide ((el cl (i-1)).id≥(el cl i).id)= !decide ((el cl (i-1)).id<(el cl i).id):=by rw[<-decide_not,ch];omega
  simp only[r9,eR,dL,Lib.dE,hi,aR,Lib.cS,aP,ay,Lib.eG,Ki hi,Te hi,Tf hi,Tg hi,Th hi,Ti hi,Tj hi,bH,bY,eQ,jm.iw,aJ (show(i:az)>0 by omega),lu (show 0<i by omega) (by omega),lK,Ki lK,aD,e1,e2,e3,Lib.de hi (by omega:cl.length<=9223372036854775807),aM hz,nK];cases decide (1<=(el cl i).id/\(el cl i).id<=9)<;>cases decide ((el cl (i-1)).id<(el cl i).id)<;>cases eB (el cl i).k<;>cases decide (1<=(el cl i).sta/\(el cl i).sta<=3)<;>cases decide (0<=(el cl i).fe/\(el cl i).fe<=(fe.length:az))<;>cases decide (((el cl i).got.size:az)<=400)<;>cases decide (0<=(el cl i).fr/\(el cl i).fr<=i0)<;>cases decide (0<=(el cl i).age)<;>rfl
theorem ok(p:Px)(hp:p.Fit 1048576):c p.now (re p.en) (rs p.w) (rs p.m) (rr p.s) p.a (rf p.fe) (rc p.cl) p.hits=ak/\v p.now (re p.en) (rs p.w) (rs p.m) (rr p.s) p.a (rf p.fe) (rc p.cl) p.hits=iZ p:=by
 refine out _ _ _ _ _ _ _ _ _ ?_;have h1:=m7.ok p.now p.en p.w p.m p.s p.a (rf p.fe) (rc p.cl) p.hits hp.en hp.w hp.m ⟨hp.s.1,hp.s.2.1⟩;have Ie:=hp.fe;have ng:=hp.cl;unfold vo b;have h2:=λi hi=>m8.ok p.now (re p.en) (rs p.w) (rs p.m) (rr p.s) p.a p.fe (rc p.cl) p.hits i hi Ie
 have kc:=λ(n:aG) (hn:p.cl.length<n)=>jU (FT p.now p.fe.length p.cl) p.cl.length (λn (i:aG)=>l9 Lib.c9 (λ(NR:aY) (_ _:az) (_ _ _ _:aW) (_:az) (_ _:aW) (_:az)=>aj NR) (λ(_:aY) (_ _:az) (_ _ _ _:aW) (_:az) (_ _:aW) (_:az)=>aj ak) n aq (i:az) p.now (re p.en) (rs p.w) (rs p.m) (rr p.s) p.a (rf p.fe) (rc p.cl) p.hits) (aj aq) (aj ak)
  (λn i hi hq=>by simp only[l9];rw[step _ _ _ _ _ _ _ _ _ _ _ _ _ i hi ng,hq];rfl)
  (λn i hi hq=>by simp only[l9];rw[step _ _ _ _ _ _ _ _ _ _ _ _ _ i hi ng,hq];rfl)
  (λn=>by simp only[l9,r9,eR,Lib.dE,bu,bm,aD]) n hn
 have kf:=jU (λi=>nr p.now (el p.fe i)&&apart p.fe i) p.fe.length (λn (i:aG)=>l4 Lib.c9 (λ(yA:aY) (_ _:az) (_ _ _ _:aW) (_:az) (_ _:aW) (_:az)=>aj yA) (λ(Ga:aY) (_ TW:az) (Od Oe Gb Of:aW) (Og:az) (Oh Mn:aW) (Kl:az)=>l9 Lib.c9 (λ(NR:aY) (_ _:az) (_ _ _ _:aW) (_:az) (_ _:aW) (_:az)=>aj NR) (λ(_:aY) (_ _:az) (_ _ _ _:aW) (_:az) (_ _:aW) (_:az)=>aj ak) Lib.c9 Ga 0 TW Od Oe Gb Of Og Oh Mn Kl) n aq (i:az) p.now (re p.en) (rs p.w) (rs p.m) (rr p.s) p.a (rf p.fe) (rc p.cl) p.hits) (aj aq) (aj ((cO p.cl.length).all (FT p.now p.fe.length p.cl)))
  (λn i hi hq=>by simp only[l4,r4,dL,Lib.dE,hi,aR,ay,(h2 i hi).1,(h2 i hi).2,hq,ba,aD,Lib.de hi (by omega:p.fe.length<=9223372036854775807)])
  (λn i hi hq=>by simp only[l4,r4,dL,Lib.dE,hi,aR,ay,(h2 i hi).1,(h2 i hi).2,hq,bX])
  (λn=>by simp only[l4,r4,dL,Lib.dE,bu,bm,aD];refine(kc Lib.c9 (cU (by omega))).trans ?_;cases (cO p.cl.length).all (FT p.now p.fe.length p.cl)<;>rfl) Lib.c9 (cU (by omega))
 rw[eQ,eQ,h1.1,h1.2,ay,dL,eR];rw[show l4 Lib.c9 _ _ Lib.c9 aq 0 p.now (re p.en) (rs p.w) (rs p.m) (rr p.s) p.a (rf p.fe) (rc p.cl) p.hits=_ from kf];unfold iZ;rw[show decide ((p.fe.length:az)>20)= !decide (p.fe.length<=20)by rw[<-decide_not,ch];omega,show decide ((p.cl.length:az)>6)= !decide (p.cl.length<=6)by rw[<-decide_not,ch];omega];cases decide (1<=p.now/\p.now<=1000000000)<;>cases K8 p.en p.w p.m p.s p.a<;>cases decide (p.fe.length<=20)<;>cases decide (p.cl.length<=6)<;>cases decide (0<=p.hits/\p.hits<=1000000000)<;>cases (cO p.fe.length).all (λi=>nr p.now (el p.fe i)&&apart p.fe i)<;>cases (cO p.cl.length).all (FT p.now p.fe.length p.cl)<;>rfl
end pY

namespace rS
open Lib (Px Cl Fe En el)
def ec(f:aG)(st:az)(t:au)(c:Cl):Cl:=bif decide (c.fe=(f:az)+1)&&decide (c.sta=1)then{c with sta:=st,got:=t}else c
def j8(cl:aA Cl)(f:aG)(st:az)(t:au):aA Cl:=cl.map (ec f st t)
theorem kK{α:Type}(l:aA α)(g:α->α):l.mapIdx (λ_ c=>g c)=l.map g:=by apply kX<;>simp
end rS

namespace gg
open Lib (Px Cl Fe En el)
open pY (iZ)
open rS (j8)
def qV(p:Px)(f:az):aY:=iZ p&&(decide (0<=f/\f<=(p.fe.length:az)-1)&&decide ((el p.fe f.toNat).sta=1))
def told(p:Px)(f:aG)(g:Fe)(st:az):Px:={p with fe:=p.fe.set f g,cl:=j8 p.cl f st g.t}
theorem ix{p:Px}{f:az}(h:qV p f=ak):∃n:aG,f=(n:az)/\n<p.fe.length/\iZ p=ak/\(el p.fe n).sta=1:=by unfold qV at h;simp only[aK,bf]at h;obtain⟨h1,h2,h3⟩:=h;exact⟨f.toNat,by omega,by omega,h1,h3⟩
theorem ni{p:Px}{n f:aG}{g:Fe}{st:az}(h:p.Fit n):(told p f g st).Fit n:=by
 refine⟨h.en,h.w,h.m,h.s, ?_, ?_⟩
 ·show(p.fe.set f g).length<=n;rw[cw];exact h.fe
 ·show(j8 p.cl f st g.t).length<=n;unfold rS.j8;rw[bQ];exact h.cl
def rm(p:Px)(f:az):Px×aY:=bif qV p f then(told p f.toNat {el p.fe f.toNat with sta:=3} 3,ak)else(p,aq)
def rB(p:Px)(f:az)(t:au):Px×aY:=
 bif qV p f&&(decide (1<=t.size/\t.size<=40)&&decide ((el p.fe f.toNat).t.size+t.size<=400))then(told p f.toNat {el p.fe f.toNat with t:=(el p.fe f.toNat).t++t} 1,ak)else(p,aq)
theorem iE{l:aA Fe}{n:aG}{g:Fe}(h:n<l.length):el (l.set n g) n=g:=by rw[eU (by rw[cw];exact h),j5]
theorem wg(l:aA Fe)(n j:aG)(ys:aA CV)(g:Fe)(h:n<l.length)(hs:iG (Fe.row (el l n)) j ys=Fe.row g):eA (Lib.rf l) n j ys=Lib.rf (l.set n g):=by rw[eU h]at hs;exact lx Fe.row l n j ys g h hs
theorem XV{p:Px}(h:iZ p=ak)(i:aG)(hi:i<p.fe.length):m8.nr p.now (el p.fe i)=true:=by unfold pY.iZ at h;simp only[aK,bf]at h;obtain⟨_,_,_,_,_,h6,_⟩:=h;rw[bn]at h6;have:=h6 i (by simpa using hi);rw[aK]at this;exact this.1
end gg

namespace f_
theorem ah5(x:az):0<=bK eh x/\bK eh x<4294967296:=by have e:bK eh x=x%4294967296:=rfl;rw[e];omega
theorem acz(x:az):0<=jw.rd x/\jw.rd x<4294967296:=by unfold jw.rd;cases decide (cG x 2=1)<;>exact ah5 _
theorem LR:∀(n:aG) (x:az),0<=x/\x<4294967296->0<=jw.mW n x/\jw.mW n x<4294967296
 |0,_,h=>h
 |n+1,x,_=>LR n _ (acz x)
theorem S7(t:au):∀(d i:aG) (s:az),0<=s/\s<4294967296->0<=jw.su t d i s/\jw.su t d i s<4294967296
 |0,_,_,h=>h
 |d+1,i,s,h=>S7 t d (i+1) _ (LR 8 _ (ah5 _))
def keyed(i:aG)(key:au):au:=key++bytesOf [[CV.i bk (i:az)]]
def sm(i:aG)(key:au):az:=jw.su (keyed i key) (keyed i key).size 0 4294967295
def pl(i:aG)(key:au):aG:=(cG (sm i key) 16).toNat
theorem J5(i:aG)(key:au):0<=sm i key/\sm i key<4294967296:=S7 _ _ _ _ (by omega)
theorem pl_int(i:aG)(key:au):cG (sm i key) 16=(pl i key:az):=by have:=J5 i key;have h:0<=cG (sm i key) 16:=Ud _ this.1;unfold pl;omega
theorem Bu(i:aG)(key:au):pl i key<16:=by have:=J5 i key;have h:=Int.tmod_lt_of_pos (sm i key) (show(0:az)<16 by omega);have h2:0<=cG (sm i key) 16:=Ud _ this.1;unfold pl;omega
theorem BG(i:aG)(key:au):(keyed i key).size=key.size+1:=by unfold keyed;rw[dC,BF]
theorem ok(i:aG)(key:au)(hi:i<3)(hk:key.size<=140737488355328):c (i:az) key=ak/\v (i:az) key=(pl i key:az):=by
 refine out _ _ ?_;unfold vo b;have e:(key++bytesOf (aE (aT [Ck.i bk] 1) 0 [CV.i bk (bK bk (i:az))]))=keyed i key:=by
  unfold keyed;match i,hi with
  |0,_=>rfl
  |1,_=>rfl
  |2,_=>rfl
 have hs:=BG i key;have h:=uJ.ok (keyed i key) (by omega);have e2:c5 key+c5 (bytesOf (aE (aT [Ck.i bk] 1) 0 [CV.i bk (bK bk (i:az))]))=key.size+1:=by rw[o9,BF]
 rw[e2,e,aJ (by omega),ay,h.1,h.2,ay];have hp:=pl_int i key;have hl:=Bu i key;unfold sm at hp;rw[hp,dh (by omega) (by omega)]
end f_

namespace nz
open Lib (rr)
theorem run(N:aG)(K0:az->aW->az->az->az->aC R)(K1:az->aW->az->az->az->aW->aC R)(s:aA (aA az))(z y a:az)(hf:iX.n5 s)(m:aG)(hm:s.length+1<m)(kr:aW->aC R)
  (h0:s=[]->K0 0 (rr s) z y a=kr []) (h1:K1 s.length (rr s) z y a (rr s)=kr (rr s)):l3 N K0 K1 m 0 (rr s) z y a=kr (rr s):=by
 obtain⟨m,rfl⟩:∃m',m=m'+1:=⟨m-1,by omega⟩
 have hz:∀q:aW,aT [Ck.i ar] 0++q=q:=λq=>rfl;have hci:∀i (h:i<s.length),cK (bW (aT [Ck.i ar] 0)+bW (Lib.ri s[i])) 8=true:=λi h=>by have:=hf.2 _ (bD h);exact Lib.cy (by rw[Lib.gY];simp[aT];omega) (by rw[Lib.gY];simp[aT];omega)
 by_cases hs:s=[]
 ·subst hs;simp only[l3,r3,gA,ju,TA,Int.lt_irrefl,bm,aD];exact h0 rfl
 ·have hp:0<s.length:=KD.2 hs;have key:=ml (R:=R) s.length (λm i (x:aW)=>tT N K0 K1 m (i:az) (rr s) z y a x) (λi=>rr (s.take i)) (kr (rr s)) (λm i h=>by
   have hl:=hf.1;simp only[tT,zV,gA,Lib.dE,h,aR,ay,Lib.cS,bj,Lib.eG,Ij h,jx,hci i h,hz,o9,bw];rw[Lib.cy (by rw[eu];omega) (by rw[eu];omega),ay,Lib.de h (by omega)];have:=ot (λq=>[CV.l 3 (Lib.ri q)]) s i h;unfold rr;rw[<-this]) (λm=>by
   simp only[tT,zV,gA,Lib.dE,bu,bm,aD,fH];exact h1) m 1 hp (by omega)
  have e:=hci 0 hp;have e0:=Ij (l:=s) hp;simp only[l3,r3,aJ (show(0:az)<(s.length:az)by omega),ay,aP,gA,show decide ((0:az)<=0)=ak from rfl,show bc 0=0 from rfl,e0,jx,e,hz,ay,o9,gk];rw[show bN (0+1)=((1:aG):az)from rfl];refine Eq.trans ?_ key;have:=ot (λq=>[CV.l 3 (Lib.ri q)]) s 0 hp;unfold rr;rw[show(0+1)=1 from rfl]at this;rw[<-this];rfl
theorem ok(s:aA (aA az))(a:az)(hf:iX.n5 s):c (rr s) a=ak/\v (rr s) a=(rr s,a):=by refine out _ _ ?_;unfold vo b;exact run Lib.c9 (λ_ _ _ _ y=>aj ([],y)) (λ_ _ _ _ tz F_=>aj (F_,tz)) s a 0 a hf Lib.c9 (cU (by have:=hf.1;omega)) (λx=>aj (x,a)) (λ_=>rfl) rfl
end nz

namespace fK
open Lib (rr ri)
def bq(p:aG)(q:aA az):aA az:=q.set p (bif decide (q.getD p 0<15)then q.getD p 0+1 else q.getD p 0)
def Cm(s:aA (aA az))(key:au):aA (aA az):=s.mapIdx λi q=>bq (f_.pl i key) q
def half(s:aA (aA az)):aA (aA az):=s.map λq=>q.map λn=>cT n 2
def val(s:aA (aA az))(a:az)(key:au):aA (aA az)×az:=
 bif fy.nH s a then(bif decide (a+1=64)then(half (Cm s key),0)else(Cm s key,a+1))else(s,a)
def fR(q:aA az):aA CV:=[CV.l 3 (ri q)]
theorem NK(q:aA az)(p:aG)(x:az)(h:p<q.length):eA (ri q) p 0 [CV.i ar x]=ri (q.set p x):=lx (λn=>[CV.i ar n]) q p 0 _ x h rfl
theorem NL(L:aA (aA az))(i:aG)(q:aA az)(h:i<L.length):eA (L.map fR) i 0 [CV.l 3 (ri q)]=(L.set i q).map fR:=lx fR L i 0 _ q h rfl
theorem AJ(L:aA (aA az))(i:aG)(h:i<L.length):aw (L.map fR) i 0=CV.l 3 (ri L[i]):=fg fR L i 0 h
theorem th{s:aA (aA az)}{a:az}(h:fy.nH s a=ak):s.length=3/\(0<=a/\a<=63)/\∀q∈s,q.length=16/\∀n∈q,0<=n/\n<=15:=by
 unfold fy.nH at h;rw[aK,aK]at h;refine⟨b9 h.1,b9 h.2.1,λq hq=> ?_⟩
 have:=bn.1 h.2.2 q hq;unfold fy.rD at this;rw[aK]at this;refine⟨b9 this.1,λn hn=> ?_⟩
 have:=bn.1 this.2 n hn;unfold fy.LG at this;exact b9 this
theorem n6{q:aA az}{p:aG}(h:p<q.length):q.getD p 0=q[p]:=by simp[jt,h]
theorem acC(K:au->az->az->az->aW->aC R)(s:aA (aA az))(key:au)(y a:az)(hs:s.length=3)(hq:∀q∈s,q.length=16/\∀n∈q,0<=n/\n<=15)(hk:key.size<=140737488355328):
  l5 Lib.c9 K Lib.c9 key 0 y a (rr s)=K key 3 y a (rr (Cm s key)):=by
 refine(n_ fR s (λi q=>bq (f_.pl i key) q) (λm (i:aG) x=>l5 Lib.c9 K m key (i:az) y a x) (λx=>K key 3 y a x) (λm i L h h2 hL uQ=> ?_) (λm L hL=> ?_) Lib.c9 (cU (by omega)))
 ·have hp:=f_.ok i key (by omega) hk;have ry:=f_.Bu i key;obtain⟨Ic,hn⟩:=hq _ (bD h);have e0:aw (L.map fR) i 0=CV.l 3 (ri s[i]):=by rw[AJ L i h2,uQ]
  have hb:f_.pl i key<s[i].length:=by omega
  have hx:=hn _ (bD hb);simp only[l5,r5,bQ,Lib.dE,h2,aR,ay,hp.1,hp.2,Lib.cS,aP,Lib.eG,e0,jx,Lib.gY,Ic,ry,Oa hb,bY];unfold bq;rw[n6 hb];cases hd:decide (s[i][f_.pl i key]<15)with
  |true=>have:=b9 hd;rw[ay,ay,dh (x:=s[i][f_.pl i key]+1) (by omega) (by omega),NK _ _ _ hb,NL _ _ _ h2,Lib.de h2 (by omega)]
  |false=>rw[aD,aD,Lib.de h2 (by omega),eZ,<-uQ,eZ]
 ·simp only[l5,r5,bQ,Lib.dE,hL,bu,bm,aD,hs];rfl
theorem sa{s:aA (aA az)}{key:au}(hs:s.length=3)(hq:∀q∈s,q.length=16/\∀n∈q,0<=n/\n<=15):(Cm s key).length=3/\∀q∈Cm s key,q.length=16/\∀n∈q,0<=n/\n<=15:=by
 unfold Cm;refine⟨by simp[hs],λq hm=> ?_⟩
 obtain⟨i,hi,rfl⟩:=List.mem_mapIdx.1 hm;obtain⟨Ic,hn⟩:=hq _ (bD hi);unfold bq;have hb:f_.pl i key<s[i].length:=by have:=f_.Bu i key;omega
 refine⟨by rw[cw];exact Ic,λn h=> ?_⟩
 rcases gV h with h|h
 ·exact hn n h
 ·rw[n6 hb]at h;have hx:=hn _ (bD hb);rw[h];cases hd:decide (s[i][f_.pl i key]<15)with
  |true=>have:=b9 hd;rw[ay];omega
  |false=>rw[aD];exact hx
theorem ahi(K:az->az->az->az->aW->aC R)(L:aA (aA az))(i:aG)(h:i<L.length)(y a:az)(hl:L.length<=1048576)(hq:L[i].length=16)(hn:∀n∈L[i],0<=n/\n<=15):
  l17 Lib.c9 K Lib.c9 (i:az) 0 y a (L.map fR)=K i 16 y a ((L.set i (L[i].map λn=>cT n 2)).map fR):=by
 have X6:L[i].mapIdx (λ_ n=>cT n 2)=L[i].map λn=>cT n 2:=by apply kX<;>simp
 have key:=ml (L[i].length) (λm (k:aG) x=>l17 Lib.c9 K m (i:az) (k:az) y a x) (λk=>(L.set i (nI L[i] (λ_ n=>cT n 2) k)).map fR) (K i 16 y a ((L.set i (L[i].map λn=>cT n 2)).map fR)) (λm k hk=> ?_) (λm=> ?_) Lib.c9 0 (bL _) (cU (by omega))
 ·rw[BM,eZ]at key;exact key
 ·have hu:=qp L[i] (λ_ n=>cT n 2) k (by omega);generalize hU:nI L[i] (λ_ n=>cT n 2) k=U at hu;have hku:k<U.length:=by omega
  have fW:U[k]=L[i][k]:=by subst hU;exact wm _ _ _ hk _
  have abF:U.set k (cT L[i][k] 2)=nI L[i] (λ_ n=>cT n 2) (k+1):=by subst hU;exact sM L[i] (λ_ n=>cT n 2) k hk
  have h2:i<(L.set i U).length:=by simpa using h
  have e0:aw ((L.set i U).map fR) i 0=CV.l 3 (ri U):=by rw[AJ _ _ h2,j5]
  have hx:=hn _ (bD hk);have ht:0<=cT L[i][k] 2:=Uc hx.1 (by omega);have E1:cT L[i][k] 2<=15:=yF (TB _ hx.1) hx.2;simp only[l17,r17,bQ,cw,Lib.dE,h,hku,aR,ay,Lib.cS,aP,Lib.eG,e0,jx,Lib.gY,Oa hku,bY,fW];rw[dh (x:=cT L[i][k] 2) (by omega) (by omega),NK _ _ _ hku,NL _ _ _ h2,abF,o0,Lib.de hk (by omega)]
 ·have e0:aw ((L.set i (nI L[i] (λ_ n=>cT n 2) L[i].length)).map fR) i 0=CV.l 3 (ri (L[i].map λn=>cT n 2)):=by rw[AJ _ _ (by simpa using h),j5,qo,X6]
  simp only[l17,r17,bQ,cw,Lib.dE,h,aR,ay,Lib.cS,aP,Lib.eG,e0,jx,Lib.gY,bu,bm,aD];rw[qo,X6,hq];rfl
theorem ahg(K:az->az->az->aW->aC R)(s:aA (aA az))(y a:az)(hs:s.length=3)(hq:∀q∈s,q.length=16/\∀n∈q,0<=n/\n<=15):
  l14 Lib.c9 K Lib.c9 0 y a (rr s)=K 3 y a (rr (half s)):=by
 have X6:s.mapIdx (λ_ q=>q.map λn=>cT n 2)=half s:=by unfold half;apply kX<;>simp
 rw[<-X6];refine(n_ fR s (λ_ q=>q.map λn=>cT n 2) (λm (i:aG) x=>l14 Lib.c9 K m (i:az) y a x) (λx=>K 3 y a x) (λm i L h h2 hL uQ=> ?_) (λm L hL=> ?_) Lib.c9 (cU (by omega)))
 ·obtain⟨Ic,hn⟩:=hq _ (bD h);simp only[l14,r14,bQ,Lib.dE,h2,aR,ay];rw[ahi _ L i h2 y a (by omega) (by rw[uQ];exact Ic) (by rw[uQ];exact hn),Lib.de h2 (by omega),uQ]
 ·simp only[l14,r14,bQ,Lib.dE,hL,bu,bm,aD,hs];rfl
theorem ok(s:aA (aA az))(a:az)(key:au)(hf:iX.n5 s)(hk:key.size<=140737488355328):c (rr s) a key=ak/\v (rr s) a key=(rr (val s a key).1,(val s a key).2):=by
 refine out _ _ _ ?_;have h1:=nz.ok s a hf;have h2:=fy.ok s a hf;unfold vo b val;rw[h1.1,h1.2,h2.1,h2.2,ay,ay];cases b8:fy.nH s a with
 |false=>rfl
 |true=>
  obtain⟨hs,ha,hq⟩:=th b8;obtain⟨b1,b2⟩:=sa (key:=key) hs hq;rw[ba,aD,ay,acC _ s key _ _ hs hq hk,dh (x:=a+1) (by omega) (by omega)];cases hd:decide (a+1=64)with
  |false=>rfl
  |true=>rw[ay,ay,ahg _ _ _ _ b1 b2]
end fK

namespace lX
open Lib (rr ri)
def gs(key:au):aG->aA (aA az)->az->az
 |_,[],x=>x
 |i,q::r,x=>gs key (i+1) r (bif decide (q.getD (f_.pl i key) 0<x)then q.getD (f_.pl i key) 0 else x)
def val(s:aA (aA az))(a:az)(key:au):az:=bif fy.nH s a then gs key 0 s 15 else 0
theorem EV(key:au)(s:aA (aA az))(i:aG)(h:i<s.length)(x:az):gs key i (s.drop i) x=gs key (i+1) (s.drop (i+1)) (bif decide (s[i].getD (f_.pl i key) 0<x)then s[i].getD (f_.pl i key) 0 else x):=by rw[dJ h];rfl
theorem ok(s:aA (aA az))(a:az)(key:au)(hf:iX.n5 s)(hk:key.size<=140737488355328):c (rr s) a key=ak/\v (rr s) a key=val s a key:=by
 refine out _ _ _ ?_;have h2:=fy.ok s a hf;unfold vo b val;rw[h2.1,h2.2,ay];cases b8:fy.nH s a with
 |false=>rfl
 |true=>
  obtain⟨hs,ha,hq⟩:=fK.th b8;rw[ba,aD,ay];have:=Lib.il (λm (t:aG×az)=>l5 Lib.c9 (λ(_:au) (y6 _:az) (_:aW) (_:az)=>aj y6) m key t.2 (t.1:az) (rr s) a) (λt=>s.length-t.1) (λt=>t.1<=s.length) (λt=>aj (gs key t.1 (s.drop t.1) t.2)) (λm t ht=>by
   obtain⟨i,x⟩:=t;dsimp only at ht⊢;by_cases h:i<s.length
   ·right;have hp:=f_.ok i key (by omega) hk;have ry:=f_.Bu i key;obtain⟨Ic,hn⟩:=hq _ (bD h);have hb:f_.pl i key<s[i].length:=by omega
    refine⟨(i+1,bif decide (s[i].getD (f_.pl i key) 0<x)then s[i].getD (f_.pl i key) 0 else x),by dsimp only;omega,by dsimp only;omega,by rw[<-EV key s i h x], ?_⟩
    simp only[l5,r5,gA,Lib.dE,h,aR,ay,hp.1,hp.2,Lib.cS,aP,Lib.eG,Ij h,jx,Lib.gY,Ic,ry,Oa hb,bY,Lib.de h (by omega:s.length<=9223372036854775807)];rw[fK.n6 hb];cases decide (s[i][f_.pl i key]<x)<;>rfl
   ·left;have:i=s.length:=by omega
    subst this;simp only[l5,r5,gA,Lib.dE,bu,bm,aD,dq,gs]) Lib.c9 (0,15) (bL _) (cU (by dsimp only;omega))
  simpa using this
end lX

namespace fS
open Lib (rr rs)
theorem ok(w m:aA au)(s:aA (aA az))(a:az)(hw:w.length<=1048576)(hm:m.length<=1048576)(hf:iX.n5 s):c (rs w) (rs m) (rr s) a=ak/\v (rs w) (rs m) (rr s) a=(rs w,rs m,rr s,a):=by have h3:=nz.ok s a hf;have r1:cK (bW (aT [Ck.s] 0)+bW (rs w)) 16=true:=Lib.cy (by simp[aT,eJ];omega) (by simp[aT,eJ];omega);have r2:cK (bW (aT [Ck.s] 0)+bW (rs m)) 16=true:=Lib.cy (by simp[aT,eJ];omega) (by simp[aT,eJ];omega);exact out _ _ _ _ (by unfold vo b;rw[r1,r2,h3.1,h3.2,ay,ay,ay];rfl)
end fS

namespace oA
theorem ok(l:aA au)(k:au)(hl:l.length<=1048576):c (Lib.rs l) k=ak/\v (Lib.rs l) k=Lib.rs (eW.without l k):=by
 refine out _ _ ?_;unfold vo b;have key:=ml l.length (λm (i:aG) (x:aW)=>l3 Lib.c9 (λ(_:aW) (_:au) (_:az) (y7:aW)=>aj y7) m (Lib.rs l) k (i:az) x) (λi=>Lib.rs (eW.without (l.take i) k)) (aj (Lib.rs (eW.without l k))) (λm i h=>by
  have hlen:=eW.gZ (l:=l.take i) (k:=k);rw[eu]at hlen;simp only[l3,r3,eJ,Lib.dE,h,aR,Lib.cS,aP,ay,Lib.eG,TT h,bH,Lib.fE,o9,bw,Lib.de h (by omega:l.length<=9223372036854775807)];rw[Lib.cy (by omega) (by omega),ay];have e:eW.without (l.take (i+1)) k=eW.without (l.take i) k++(bif !decide (l[i]=k)then [l[i]]else []):=by unfold eW.without;rw[c8 h,iP];cases hd:decide (l[i]=k)<;>simp[hd]
  rw[e];cases hd:decide (l[i]=k)with
  |true=>rw[ba,aD,aD,dn]
  |false=>rw[bX,ay,ay];unfold Lib.rs;rw[dm];rfl) (λm=>by
  simp only[l3,r3,eJ,Lib.dE,bu,bm,aD,fH]) Lib.c9 0 (bL _) (cU (by omega))
 exact key
end oA

namespace jv
open Lib (rr rs)
open eW (has without gp jR u_ gZ oS)
open jm (eB Jz mO rQ iw)
def val(w m:aA au)(s:aA (aA az))(a:az)(key:au):aA au×aA au×aA (aA az)×az×au:=
 bif rQ w m s a&&eB key then
  bif has w key then(without w key++[key],m,(fK.val s a key).1,(fK.val s a key).2,⟨#[]⟩)
  else bif has m key then(w,without m key++[key],(fK.val s a key).1,(fK.val s a key).2,⟨#[]⟩)
  else bif decide ((w++[key]).length<=2)then(w++[key],m,(fK.val s a key).1,(fK.val s a key).2,⟨#[]⟩)
  else bif decide (m.length<4)then((w++[key]).tail,m++[(w++[key]).getD 0 ⟨#[]⟩],(fK.val s a key).1,(fK.val s a key).2,⟨#[]⟩)
  else bif decide (lX.val (fK.val s a key).1 (fK.val s a key).2 ((w++[key]).getD 0 ⟨#[]⟩)>lX.val (fK.val s a key).1 (fK.val s a key).2 (m.getD 0 ⟨#[]⟩))then
   ((w++[key]).tail,m.tail++[(w++[key]).getD 0 ⟨#[]⟩],(fK.val s a key).1,(fK.val s a key).2,m.getD 0 ⟨#[]⟩)
  else((w++[key]).tail,m,(fK.val s a key).1,(fK.val s a key).2,(w++[key]).getD 0 ⟨#[]⟩)
 else(w,m,s,a,⟨#[]⟩)
theorem BH(l:aA au)(k:au):rs l++[[CV.s k]]=rs (l++[k]):=by unfold Lib.rs;rw[dm];rfl
theorem zer(l:aA au):aT [Ck.s] 0++rs l=rs l:=rfl
theorem Qx(l:aA au):bH (aw (rs l) (bc 0) 0)=l.getD 0 ⟨#[]⟩:=by cases l<;>rfl
theorem S9(l:aA au):eT (rs l) (bc 1) (bc (l.length:az))=rs l.tail:=by unfold eT Lib.rs;rw[show bc 1=1 from rfl,Lib.eG,List.drop_one,<-List.map_tail,iK (by simp)]
theorem mP{l:aA au}(h:mO l=ak){k:au}(hk:k∈l):eB k=true:=by
 unfold mO at h;rw[bn]at h;obtain⟨i,hi,rfl⟩:=da hk;have:=h i (by simpa using hi);unfold Jz at this;rw[aK]at this;have e:l.getD i ⟨#[]⟩=l[i]:=by simp[jt,hi]
 rw[e]at this;exact this.1
theorem uV{l:aA au}:mO l=ak↔(∀k∈l,eB k=ak)/\l.Nodup:=by
 constructor
 ·intro h;refine⟨λk hk=>mP h hk, ?_⟩
  rw[oZ,dv];intro i j hi hj M0 he;unfold mO at h;rw[bn]at h;have h2:=h j (by simpa using hj);unfold Jz at h2;have e:l.getD j ⟨#[]⟩=l[j]:=by simp[jt,hj]
  rw[e,aK,dG,jR]at h2;refine h2.2 ?_;rw[<-he];have:(l.take j)[i]'(by rw[eu];omega)=l[i]:=my ..;rw[<-this];exact bD _
 ·intro h;unfold mO;rw[bn];intro j hj;have hj:j<l.length:=by simpa using hj
  unfold Jz;have e:l.getD j ⟨#[]⟩=l[j]:=by simp[jt,hj]
  rw[e,aK,dG,jR];refine⟨h.1 _ (bD hj),λhm=> ?_⟩
  obtain⟨i,hi,he⟩:=da hm;rw[eu]at hi;rw[my]at he;have h2:=h.2;rw[oZ,dv]at h2;exact h2 i j (by omega) hj (by omega) he
theorem ka{k:au}(h:eB k=ak):1<=k.size/\k.size<=30:=by unfold eB at h;have:=b9 h;omega
theorem J0{s:aA (aA az)}{a:az}{key:au}(h:iX.n5 s):iX.n5 (fK.val s a key).1:=by
 unfold fK.val;cases b8:fy.nH s a with
 |false=>exact h
 |true=>
  obtain⟨hs,_,hq⟩:=fK.th b8;obtain⟨b1,b2⟩:=fK.sa (key:=key) hs hq;rw[ay];cases decide (a+1=64)with
  |false=>exact⟨by rw[aD];dsimp only;omega,λq h=>by have:=(b2 q h).1;omega⟩
  |true=>
   rw[ay];dsimp only;unfold fK.half;refine⟨by rw[bQ];omega,λq h=> ?_⟩
   obtain⟨q',hq',rfl⟩:=cJ.1 h;rw[bQ];have:=(b2 q' hq').1;omega
theorem si{l:aA au}(h:0<l.length):l.getD 0 ⟨#[]⟩∈l:=by
 cases l with
 |nil=>simp at h
 |cons x r=>exact dy ..
theorem Br{w m:aA au}{s:aA (aA az)}{a:az}(h:rQ w m s a=ak):mO (w++m)=ak/\w.length<=2/\m.length<=4/\fy.nH s a=true:=by unfold rQ at h;simp only[aK,bf]at h;exact⟨h.1,h.2.1,h.2.2.1,h.2.2.2⟩
theorem ok(w m:aA au)(s:aA (aA az))(a:az)(key:au)(hw:w.length<=1048576)(hm:m.length<=1048576)(hf:iX.n5 s)(hk:key.size<=140737488355328):
  c (rs w) (rs m) (rr s) a key=ak/\v (rs w) (rs m) (rr s) a key=(rs (val w m s a key).1,rs (val w m s a key).2.1,rr (val w m s a key).2.2.1,(val w m s a key).2.2.2.1,(val w m s a key).2.2.2.2):=by
 refine out _ _ _ _ _ ?_;have h1:=fS.ok w m s a hw hm hf;have h2:=jm.ok w m s a hw hm hf;have h3:=fK.ok s a key hf hk;have h4:=eW.ok w key (by omega);have h5:=eW.ok m key (by omega);have h6:=oA.ok w key hw;have h7:=oA.ok m key hm;have sf:=J0 (a:=a) (key:=key) hf;unfold vo b;simp only[Lib.lt,h1.1,h1.2,h2.1,h2.2,ay];unfold val;cases hp:rQ w m s a with
 |false=>rfl
 |true=>
  obtain⟨p1,p2,p3,p4⟩:=Br hp;rw[iw,bj];cases zp:eB key with
  |false=>rfl
  |true=>
   have zq:=ka zp;have l6:=gZ (l:=w) (k:=key);have l7:=gZ (l:=m) (k:=key);simp only[ba,aD,ay,h3.1,h3.2,h4.1,h4.2,h5.1,h5.2,h6.1,h6.2,h7.1,h7.2,BH,zer,eJ,o9,bw];rw[Lib.cy (n:=(without w key).length+1) (by omega) (by omega),Lib.cy (n:=(without m key).length+1) (by omega) (by omega),Lib.cy (n:=w.length+1) (by omega) (by omega)];simp only[ay];cases hA:has w key with
   |true=>rfl
   |false=>
    cases hB:has m key with
    |true=>rfl
    |false=>
     simp only[aD];rw[show decide (((w++[key]).length:az)<=2)=decide ((w++[key]).length<=2)by rw[ch];omega];cases hC:decide ((w++[key]).length<=2)with
     |true=>rfl
     |false=>
      have hlw:(w++[key]).length=3:=by have:=lr hC;rw[bP,bw]at this⊢;omega
      have hfm:(w++[key]).getD 0 ⟨#[]⟩∈w++[key]:=si (by omega);have Jq:((w++[key]).getD 0 ⟨#[]⟩).size<=30:=by
       rcases a_.1 hfm with h|h
       ·exact(ka (mP p1 (bO _ h))).2
       ·rw[aZ]at h;rw[h];exact zq.2
      have g1:=lX.ok (fK.val s a key).1 (fK.val s a key).2 ((w++[key]).getD 0 ⟨#[]⟩) sf (by omega);have i1:iQ 1 ((w++[key]).length:az) ((w++[key]).length:az)=true:=by rw[hlw];rfl
      have ht:(w++[key]).tail.length=2:=by rw[zb];omega
      have rz:cK (bW (aT [Ck.s] 0)+(w++[key]).tail.length) 16=true:=Lib.cy (by rw[ht];decide) (by rw[ht];decide);simp only[aD,aJ (show(0:az)<((w++[key]).length:az)by omega),i1,ay,Qx,S9,rz,zer,BH,eJ,Lib.cy (n:=m.length+1) (b:=16) (by omega) (by omega),g1.1,g1.2];rw[show decide ((m.length:az)<4)=decide (m.length<4)by rw[ch];omega];cases hD:decide (m.length<4)with
      |true=>rfl
      |false=>
       have hm4:m.length=4:=by have:=lr hD;omega
       have X7:m.getD 0 ⟨#[]⟩∈m:=si (by omega);have hms:=(ka (mP p1 (bI _ X7))).2;have g2:=lX.ok (fK.val s a key).1 (fK.val s a key).2 (m.getD 0 ⟨#[]⟩) sf (by omega);have i2:iQ 1 (m.length:az) (m.length:az)=true:=by simp[iQ];omega
       have E1:m.tail.length=3:=by rw[zb];omega
       have rz2:cK (bW (aT [Ck.s] 0)+m.tail.length) 16=true:=Lib.cy (by rw[E1];decide) (by rw[E1];decide);simp only[aD,aJ (show(0:az)<(m.length:az)by omega),i2,ay,rz2,BH,Lib.cy (n:=m.tail.length+1) (b:=16) (by omega) (by omega),g2.1,g2.2];cases decide (lX.val (fK.val s a key).1 (fK.val s a key).2 ((w++[key]).getD 0 ⟨#[]⟩)>lX.val (fK.val s a key).1 (fK.val s a key).2 (m.getD 0 ⟨#[]⟩))<;>rfl
def lens(s:aA (aA az)):aA aG:=s.map bW
theorem Dw(s:aA (aA az))(key:au):lens (fK.Cm s key)=lens s:=by
 unfold lens fK.Cm;apply kX
 ·simp
 ·intro i h1 h2;simp[fK.bq]
theorem Nf(s:aA (aA az)):lens (fK.half s)=lens s:=by unfold lens fK.half;rw[jW];apply vi;intro q _;simp
theorem Vo(s:aA (aA az))(a:az)(key:au):lens (fK.val s a key).1=lens s:=by
 unfold fK.val;cases fy.nH s a with
 |false=>rfl
 |true=>
  cases decide (a+1=64)with
  |false=>exact Dw s key
  |true=>exact(Nf _).trans (Dw s key)
theorem Ke(w m:aA au)(s:aA (aA az))(a:az)(key:au):(val w m s a key).1.length<=w.length+1/\(val w m s a key).2.1.length<=m.length+1/\lens (val w m s a key).2.2.1=lens s:=by
 have hw:=gZ (l:=w) (k:=key);have hm:=gZ (l:=m) (k:=key);have hs:=Vo s a key;unfold val;cases rQ w m s a&&eB key with
 |false=>exact⟨by rw[aD];exact jc _,by rw[aD];exact jc _,rfl⟩
 |true=>
  rw[ay];cases has w key with
  |true=>refine⟨?_, ?_,hs⟩<;>(simp only[ay];simp;try omega)
  |false=>
   cases has m key with
   |true=>refine⟨?_, ?_,hs⟩<;>(simp only[ay,aD];simp;try omega)
   |false=>
    cases decide ((w++[key]).length<=2)with
    |true=>refine⟨?_, ?_,hs⟩<;>(simp only[ay,aD];simp;try omega)
    |false=>
     cases decide (m.length<4)with
     |true=>refine⟨?_, ?_,hs⟩<;>(simp only[ay,aD];simp;try omega)
     |false=>
      cases decide (lX.val (fK.val s a key).1 (fK.val s a key).2 ((w++[key]).getD 0 ⟨#[]⟩)>lX.val (fK.val s a key).1 (fK.val s a key).2 (m.getD 0 ⟨#[]⟩))with
      |true=>refine⟨?_, ?_,hs⟩<;>(simp only[ay,aD];simp;try omega)
      |false=>refine⟨?_, ?_,hs⟩<;>(simp only[ay,aD];simp;try omega)
end jv

namespace jT
open Lib (rr rs re rf rc Px En el)
open eW (has)
open gG (fT So fG l8 vE drop_nil Bn sH EJ Qa tn)
def yX(p:Px)(e:En):Px:=
 {p with
  w:=(jv.val p.w p.m p.s p.a e.k).1
  m:=(jv.val p.w p.m p.s p.a e.k).2.1
  s:=(jv.val p.w p.m p.s p.a e.k).2.2.1
  a:=(jv.val p.w p.m p.s p.a e.k).2.2.2.1
  en:=bif has (jv.val p.w p.m p.s p.a e.k).1 e.k||has (jv.val p.w p.m p.s p.a e.k).2.1 e.k then l8 (fG p.en (jv.val p.w p.m p.s p.a e.k).2.2.2.2) e else fG p.en (jv.val p.w p.m p.s p.a e.k).2.2.2.2}
theorem ahm{en:aA En}{w m:aA au}(h:(cO en.length).all (m7.FV en w m)=ak):So en/\∀e∈en,1<=e.k.size:=by
 rw[bn]at h;have h1:∀i (hi:i<en.length),m7.FV en w m i=true:=λi hi=>h i (by simpa using hi);constructor
 ·have adj:∀d i (hi:i+d+1<en.length),fT (el en i).k (el en (i+d+1)).k=true:=by
   intro d;induction d with
   |zero=>
    intro i hi;have:=h1 (i+1) (by omega);unfold m7.FV at this;rw[aK,aK,dH]at this;rcases this.2.1 with h|h
    ·have:=b9 h;omega
    ·exact h
   |succ d ih=>
    intro i hi;have a:=ih i (by omega);have:=h1 (i+d+1+1) (by omega);unfold m7.FV at this;rw[aK,aK,dH]at this;rcases this.2.1 with h|h
    ·have:=b9 h;omega
    ·exact fL.qf _ _ _ a h
  unfold So;rw[dv];intro i j hi hj M0;have:=adj (j-i-1) i (by omega);rw[show i+(j-i-1)+1=j by omega,eU hi,eU hj]at this;exact this
 ·intro e he;obtain⟨i,hi,rfl⟩:=da he;have:=h1 i hi;unfold m7.FV m7.tP at this;rw[aK,eU hi]at this;exact(iM.F7 this.1).1.1
theorem Fm{p:Px}(h:pY.iZ p=ak):So p.en/\(∀e∈p.en,1<=e.k.size)/\p.en.length<=6/\p.w.length<=2/\p.m.length<=4/\p.fe.length<=20/\p.cl.length<=6/\(1<=p.now/\p.now<=1000000000)/\(0<=p.hits/\p.hits<=1000000000)/\jm.rQ p.w p.m p.s p.a=ak/\(∀i,i<p.fe.length->m8.nr p.now (el p.fe i)=ak):=by
 unfold pY.iZ at h;simp only[aK,bf]at h;obtain⟨h1,h2,h3,h4,h5,h6,h7⟩:=h;unfold m7.K8 at h2;simp only[aK,bf]at h2;obtain⟨g1,g2,g3⟩:=h2;obtain⟨s1,s2⟩:=ahm g1;obtain⟨_,q2,q3,_⟩:=jv.Br g2;refine⟨s1,s2,by omega,q2,q3,h3,h4,h1,h5,g2,λi hi=> ?_⟩
 rw[bn]at h6;have:=h6 i (by simpa using hi);rw[aK]at this;exact this.1
theorem iR{p:Px}(h:pY.iZ p=ak):p.Fit 48:=by
 obtain⟨_,_,a1,a2,a3,a4,a5,_,_,hp,_⟩:=Fm h;obtain⟨_,_,_,hs⟩:=jv.Br hp;unfold fy.nH at hs;simp only[aK,bf,bn]at hs;obtain⟨s1,_,s3⟩:=hs;have s4:∀q∈p.s,q.length=16:=λq hq=>by have:=s3 q hq;unfold fy.rD at this;rw[aK,bf]at this;exact this.1
 refine⟨by omega,by omega,by omega,⟨by omega,λq hq=>by rw[s4 q hq];omega, ?_⟩,by omega,by omega⟩
 have:p.s.map bW=List.replicate 3 16:=by
  rw[List.eq_replicate_iff];refine⟨by rw[bQ,s1],λx hx=> ?_⟩
  obtain⟨q,hq,rfl⟩:=cJ.1 hx;exact s4 q hq
 rw[this];decide
end jT

namespace pZ
open Lib (Px Cl Fe En el)
open gg (qV told)
def lY(f:Fe):En:=⟨f.k,f.st,f.li,f.t⟩
def cls(p:Px)(f:az)(life:az):Px×aY:=
 bif qV p f&&decide (0<=life/\life<=999999)then
  (bif decide (life>0)then jT.yX (told p f.toNat {el p.fe f.toNat with sta:=2,li:=life,st:=p.now} 2) (lY {el p.fe f.toNat with sta:=2,li:=life,st:=p.now})
   else told p f.toNat {el p.fe f.toNat with sta:=2,li:=life,st:=p.now} 2,ak)
 else(p,aq)
theorem GN{p:Px}{f life:az}:(cls p f life).1.now=p.now/\(cls p f life).1.hits=p.hits:=by
 unfold cls;cases qV p f&&decide (0<=life/\life<=999999)with
 |false=>exact⟨rfl,rfl⟩
 |true=>cases decide (life>0)<;>exact⟨rfl,rfl⟩
end pZ

namespace ed
open Lib (Px Cl Fe En el rc rf re)
open eW (has without)
open jm (eB)
open pY (iZ)
open gG (So fG)
def tQ(e:En)(now:az):aY:=IH.v e.k e.st e.li e.bo now
def jn(l:aA Cl)(c:Cl):aA Cl:=l.filter (λx=>decide (x.id<c.id))++[c]++l.filter (λx=>decide (x.id>c.id))
def jr(l:aA Cl)(id:az):aY:=l.any λx=>decide (x.id=id)
def Cr(l:aA En)(key:au):aC En:=l.find? λe=>decide (e.k=key)
def Bm(key:au)(f:Fe):aY:=decide (f.k=key)&&decide (f.sta=1)
def CE(l:aA Fe)(key:au):aC aG:=l.findIdx? (Bm key)
def qk(key:au):Fe:=⟨key,⟨#[]⟩,1,0,0⟩
def put(p:Px)(id:az)(key:au)(h:aY)(fe:aA Fe)(i:aG):Px:=
 {p with en:=bif h then fG p.en key else p.en,w:=bif h then without p.w key else p.w,m:=bif h then without p.m key else p.m,s:=(fK.val p.s p.a key).1,a:=(fK.val p.s p.a key).2,fe:=fe,cl:=jn p.cl ⟨id,key,(i:az)+1,0,1,(el fe i).t,0⟩}
def n9(p:Px)(id:az)(key:au)(h:aY):Px×az:=
 match CE p.fe key with
 |some i=>(put p id key h p.fe i,0)
 |none=>bif decide (p.fe.length<20)then(put p id key h (p.fe++[qk key]) p.fe.length,0)else(p,2)
def X4(p:Px)(id:az)(key:au)(e:En):Px:=
 {p with w:=(jv.val p.w p.m p.s p.a key).1,m:=(jv.val p.w p.m p.s p.a key).2.1,s:=(jv.val p.w p.m p.s p.a key).2.2.1,a:=(jv.val p.w p.m p.s p.a key).2.2.2.1,cl:=jn p.cl ⟨id,key,0,e.st,2,e.bo,p.now-e.st⟩,hits:=bif decide (p.hits<1000000000)then p.hits+1 else p.hits}
def ask(p:Px)(id:az)(key:au):Px×az:=
 bif iZ p&&(decide (1<=id/\id<=9)&&(eB key&&(!jr p.cl id&&decide (p.cl.length<6))))then
  match Cr p.en key with
  |some e=>bif tQ e p.now then(X4 p id key e,0)else n9 p id key ak
  |none=>n9 p id key aq
 else(p,1)
theorem Je{α:Type}(l:aA α)(q:α->aY)(p:aG->aY)(h:∀i (hi:i<l.length),p i=q l[i]):decide (Lib.fi p l.length 0≥0)=l.any q:=by
 rcases Lib.pP p l.length 0 with ⟨e,ha⟩|⟨k,_,hk,e,hp,_⟩
 ·rw[e,aM (by omega)];symm;rw[Ak];intro x hx;obtain⟨i,hi,rfl⟩:=da hx;rw[<-h i hi,ha i (by omega) (by omega)];simp
 ·rw[e,aJ (by omega)];symm;rw[List.any_eq_true];exact⟨_,bD (by omega:k<l.length),by rw[<-h k (by omega)];exact hp⟩
theorem zK{α:Type}[Inhabited α](l:aA α)(q:α->aY)(p:aG->aY)(h:∀i (hi:i<l.length),p i=q l[i]):
  (Lib.fi p l.length 0= -1/\l.find? q=ao/\l.findIdx? q=ao)\/∃i,i<l.length/\Lib.fi p l.length 0=(i:az)/\l.find? q=aj (el l i)/\l.findIdx? q=aj i:=by
 rcases Lib.pP p l.length 0 with ⟨e,ha⟩|⟨k,_,hk,e,hp,hb⟩
 ·have hn:∀x∈l,q x=false:=λx hx=>by obtain⟨i,hi,rfl⟩:=da hx;rw[<-h i hi,ha i (by omega) (by omega)]
  refine .inl ⟨e,p8.2 λx hx=>by rw[hn x hx];simp,pG.2 hn⟩
 ·have ud:k<l.length:=by omega
  have f:l.findIdx? q=aj k:=mg.2 ⟨ud,by rw[<-h k ud];exact hp,λj hj=>by rw[<-h j (by omega),hb j (by omega) hj];simp⟩;refine .inr ⟨k,ud,e, ?_,f⟩;rw[Am];exact⟨by rw[eU ud,<-h k ud];exact hp,k,ud,(eU ud).symm,λj hj=>by rw[<-h j (by omega),hb j (by omega) hj];rfl⟩
def lid(id:az)(y:aA CV):aY:=decide (bY (y.getD 0 (.b aq))<id)
theorem QY{l:aA Cl}{c:Cl}(cs:l.Pairwise λa b=>a.id<b.id)(hn:jr l c.id=aq):
  (rc l).take ((rc l).takeWhile (lid c.id)).length++[Cl.row c]++(rc l).drop ((rc l).takeWhile (lid c.id)).length=rc (jn l c):=by
 rw[zY,zH];have ic:∀y∈l,y.id≠c.id:=λy hy e=>by unfold jr at hn;rw[Ak]at hn;exact hn y hy (aJ e)
 obtain⟨t1,t2⟩:=Lib.BL (λx:Cl=>decide (x.id<c.id)) (λx=>decide (x.id>c.id)) l (λy hy=>by
  have:=ic y hy;by_cases h:y.id<c.id
  ·rw[aJ h,aM (by omega)];rfl
  ·rw[aM h,aJ (by omega)];rfl) (cs.imp λ{a b} hab h=>aJ (by have:=b9 h;omega))
 unfold Lib.rc;rw[List.takeWhile_map,List.dropWhile_map];have e:lid c.id∘Cl.row=λx:Cl=>decide (x.id<c.id):=rfl;rw[e,t1,t2];unfold jn;rw[dm,dm];rfl
end ed

namespace nt
open Lib (rd el Fi)
open eH (uY kM)
def kN(left:aW)(i:aG)(f:Fi):az:=bif decide (i<left.length)then k8 ak f.kp (k8 aq (bY (aw left i 0)) (f.t.size:az))else f.kp
def aeF(left:aW)(i:aG)(f:Fi):Fi:=⟨f.n,f.t.extract 0 (kN left i f).toNat,kN left i f⟩
def afO(d:aA Fi)(left:aW):aC (aA Fi):=bif uY d then aj (d.mapIdx (aeF left))else ao
theorem abQ(left:aW)(i:aG){f:Fi}(h:0<=f.kp/\f.kp<=(f.t.size:az)):f.kp<=kN left i f/\kN left i f<=(f.t.size:az):=by
 unfold kN k8;cases decide (i<left.length)with
 |false=>rw[aD];omega
 |true=>simp only[ay,aD];split<;>split<;>omega
end nt

namespace mz
def eo(l:aW)(i:aG):aY:=iM.v (bH (aw l i 0)) (bY (aw l i 1)) (bY (aw l i 2)) (bH (aw l i 3))
def tx(l:aW)(i:aG):au:=jP.rR (bH (aw l i 0)) (bY (aw l i 1)) (bY (aw l i 2)) (bH (aw l i 3))
def fs(l:aW):aG->aG->au->aC au
 |0,_,acc=>aj acc
 |d+1,i,acc=>if eo l i=ak then fs l d (i+1) (acc++fU.fr (tx l i))else ao
theorem ET(l:aW)(d i:aG)(acc:au):fs l (d+1) i acc=if eo l i=ak then fs l d (i+1) (acc++fU.fr (tx l i))else none:=rfl
def fin(o:aC au)(kf:aC R)(kt:au->aC R):aC R:=match o with|some x=>kt x|none=>kf
theorem Uv(l:aW)(hl:l.length<=1048576)(F:aG->aG->au->aC R)(kf:aC R)(kt:au->aC R)
  (hT:∀m i acc,i<l.length->acc.size<=2000*i->(fU.fr (tx l i)).size<=2000->eo l i=ak->F (m+1) i acc=F m (i+1) (acc++fU.fr (tx l i)))
  (hF:∀m i acc,i<l.length->eo l i=aq->F (m+1) i acc=kf) (hE:∀m acc,F (m+1) l.length acc=kt acc):F Lib.c9 0 ⟨#[]⟩=fin (fs l l.length 0 ⟨#[]⟩) kf kt:=by
 have:=Lib.il (λn (z:aG×au)=>F n z.1 z.2) (λz=>l.length-z.1) (λz=>z.1<=l.length/\z.2.size<=2000*z.1) (λz=>fin (fs l (l.length-z.1) z.1 z.2) kf kt) (λm z hz=>by
  obtain⟨i,acc⟩:=z;obtain⟨h1,h2⟩:=hz;dsimp only at h1 h2⊢;by_cases h:i<l.length
  ·have e:l.length-i=(l.length-(i+1))+1:=by omega
   cases ho:eo l i with
   |true=>
    right;have hs:=iz.wk ho;have hf:(fU.fr (tx l i)).size<=2000:=by have:=fU.UM (t:=tx l i) (by unfold tx;omega);unfold tx at this⊢;omega
    exact⟨(i+1,acc++fU.fr (tx l i)),⟨h,by dsimp only;rw[Lib.ly];omega⟩,by dsimp only;omega,by dsimp only;rw[e,ET,bC ho],hT m i acc h h2 hf ho⟩
   |false=>left;rw[hF m i acc h ho,e,ET,bM (by simp[ho])];rfl
  ·left;have:i=l.length:=by omega
   subst this;rw[hE,wQ];rfl) Lib.c9 (0,⟨#[]⟩) ⟨bL _,bL _⟩ (cU (by dsimp only;omega))
 simpa using this
def nm:au:={data:= #[ax 110,ax 101,ax 119]}
def mA(has:aY)(x:au):aW:=(if has=ak then [[CV.i ar 4,CV.s nm,CV.s {data:= #[]},CV.s {data:= #[]}]]else [])++[[CV.i ar 1,CV.s nm,CV.s x,CV.s {data:= #[]}],[CV.i ar 2,CV.s nm,CV.s {data:= #[]},CV.s {data:= #[]}],[CV.i ar 3,CV.s nm,CV.s {data:= #[]},CV.s {data:= #[ax 107,ax 101,ax 112,ax 116]}]]
def val(d l:aW):aW×aY:=bif dF.val d then(match fs l l.length 0 ⟨#[]⟩with|some x=>(mA (mK.val d nm).2 x,ak)|none=>([],aq))else([],aq)
theorem ok(d l:aW)(hd:d.length<=1048576)(hl:l.length<=1048576):c d l=ak/\v d l=val d l:=by
 refine out d l ?_;have k1:=dF.ok d (by omega);have k2:=mK.ok d {data:= #[ax 110,ax 101,ax 119]} (by omega);have e2:mK.val d {data:= #[ax 110,ax 101,ax 119]}=mK.val d nm:=rfl;unfold vo b val;rw[k1.1,k1.2,ay];cases dF.val d with
 |false=>rfl
 |true=>
  rw[ba,aD,ay,k2.1,ay,k2.2,e2];have tr:∀(K0:aW->aY->au->az->aW->aW->aC (aW×aY)) (K1:aW->aY->au->az->aW->aC (aW×aY)) (base:aW) (kt:au->aC (aW×aY)) (h0:∀x i,K0 l aq x i [] base=aj ([],aq)) (h1:∀x i,K1 l aq x i base=kt x),l9 Lib.c9 K0 K1 Lib.c9 l aq ⟨#[]⟩ 0 base=fin (fs l l.length 0 ⟨#[]⟩) (aj ([],aq)) kt:=by
   intro K0 K1 base kt h0 h1;refine Uv l hl (λm i acc=>l9 Lib.c9 K0 K1 m l aq acc (i:az) base) _ kt (λm i acc hi ha hf ho=> ?_) (λm i acc hi ho=> ?_) (λm acc=> ?_)
   ·have lK:bN ((i:az)+1)=((i+1:aG):az):=dh (by omega) (by omega);have t1:jP.v (bH (aw l i 0)) (bY (aw l i 1)) (bY (aw l i (1+1))) (bH (aw l i (1+1+1)))=(tx l i,ak):=by unfold jP.v;exact bC ho
    have f1:=fU.ok (tx l i);have f2:fU.val (tx l i)=(fU.fr (tx l i),ak):=by unfold fU.val;have q1:=iz.FD ho;have q2:=iz.wk ho;rw[bC ⟨q1,db q2 (by omega)⟩]
    simp only[l9,r9,Lib.dE,Lib.cS,Lib.eG,hi,aR,aP,ay,aD,t1,f1.1,f1.2,f2,ba,aJ (show acc.size+(fU.fr (tx l i)).size<=4611686018427387904 by omega),lK]
   ·have t1:jP.v (bH (aw l i 0)) (bY (aw l i 1)) (bY (aw l i (1+1))) (bH (aw l i (1+1+1)))=(⟨#[]⟩,aq):=by unfold jP.v;rw[bM (by intro h;have h':eo l i=true:=h;rw[ho]at h';cases h')]
    have f1:=fU.ok ⟨#[]⟩;simp only[l9,r9,Lib.dE,Lib.cS,Lib.eG,hi,aR,aP,ay,t1,f1.1,bX];exact h0 acc i
   ·simp only[l9,r9,Lib.dE,bu,bm,aD];exact h1 acc _
  cases hh:(mK.val d nm).2 with
  |true=>rw[ay];refine(tr _ _ _ (λx=>aj (mA ak x,ak)) (λ_ _=>rfl) (λ_ _=>rfl)).trans ?_;cases fs l l.length 0 ⟨#[]⟩<;>rfl
  |false=>rw[aD];refine(tr _ _ _ (λx=>aj (mA aq x,ak)) (λ_ _=>rfl) (λ_ _=>rfl)).trans ?_;cases fs l l.length 0 ⟨#[]⟩<;>rfl
end mz

namespace vd
open Lib (re rd el En Fi)
open jZ (kd kp Dd tx Jk base bt qu ao5)
open eH (mA act uY nr put without FY ra Ac)
open gG (So l8 fT)
open nt (afO aeF kN abQ)
abbrev qv:au:={data:= #[ax 110,ax 101,ax 119]}
def yH(x:au):aA Ac:=[⟨1,qv,x,⟨#[]⟩⟩,⟨2,qv,⟨#[]⟩,⟨#[]⟩⟩,⟨3,qv,⟨#[]⟩,qu⟩]
theorem less:fT qu qv=true:=by unfold fT;rw[jV,jV];rfl
theorem ame(t:au)(k:az)(h1:t.size<=20000)(h2:0<=k/\k<=(t.size:az)):nr ⟨qv,t,k⟩=true:=by unfold nr;have:((qv.size:aG):az)=3:=rfl;rw[this,aJ (by omega),aJ h2,aM (by dsimp only;omega)];rfl
theorem FC{o:aC au}{x:au}{k:az}(h:(bt o).size<=20000)(hx:x.size<=20000)(hk:0<=k/\k<=(x.size:az)):uY (base o++[⟨qv,x,k⟩])=true:=by
 refine eH.kM.2 ⟨?_,λf hf=> ?_, ?_⟩
 ·cases o<;>simp[base]
 ·rcases a_.1 hf with hf|hf
  ·exact(eH.kM.1 (jZ.sW h)).2.1 f hf
  ·rw[aZ.1 hf];exact ame x k hx hk
 ·cases o with
  |none=>exact FP ..
  |some t=>exact p9.2 ⟨λy hy=>by rw[aZ.1 hy];exact less,FP ..⟩
theorem nKN:qu≠qv:=by decide
theorem Qh(o:aC au)(x:au)(k:az):(base o++[(⟨qv,x,k⟩:Fi)]).find? (λy=>decide (y.n=qv))=aj ⟨qv,x,k⟩:=by
 cases o with
 |none=>rfl
 |some t=>rw[show base (aj t)++[(⟨qv,x,k⟩:Fi)]=[⟨qu,t,t.size⟩,⟨qv,x,k⟩]from rfl,Ix (by simp[nKN]),List.find?_cons_of_pos (by simp)]
theorem afV(o:aC au):(base o).find? (λy=>decide (y.n=qv))=none:=by
 cases o with
 |none=>rfl
 |some t=>rw[show base (aj t)=[⟨qu,t,t.size⟩]from rfl,Ix (by simp[nKN]),List.find?_nil]
theorem aha(o:aC au)(x:au)(k:az):put (base o) ⟨qv,x,k⟩=base o++[⟨qv,x,k⟩]:=by
 cases o with
 |none=>rfl
 |some t=>unfold put;rw[show base (aj t)=[⟨qu,t,t.size⟩]from rfl,dx (by simpa using less),cm (by simp[less])];rfl
theorem acw(o:aC au)(x y:au)(k m:az):put (base o++[⟨qv,y,m⟩]) ⟨qv,x,k⟩=base o++[⟨qv,x,k⟩]:=by
 cases o with
 |none=>exact jZ.vW rfl
 |some t=>unfold put;rw[show base (aj t)++[(⟨qv,y,m⟩:Fi)]=[⟨qu,t,t.size⟩,⟨qv,y,m⟩]from rfl,dx (by simpa using less),cm (by rw[eH.irrefl];simp),cm (by simp[less]),cm (by simp)];rfl
theorem mov(o:aC au)(x:au)(k:az):put (without (base o++[⟨qv,x,k⟩]) qv) ⟨qu,x,k⟩=[⟨qu,x,k⟩]:=by
 have:without (base o++[⟨qv,x,k⟩]) qv=base o:=by
  unfold without;rw[iP,cm (by simp),List.filter_nil,dn,eN];intro f hf;cases o with
  |none=>cases hf
  |some t=>rw[aZ.1 hf];simp[nKN]
 rw[this];cases o with
 |none=>rfl
 |some t=>exact jZ.vW rfl
theorem a1{o:aC au}{x:au}(h:(bt o).size<=20000)(hx:x.size<=20000):act (base o) 1 qv x ⟨#[]⟩=aj (base o++[⟨qv,x,0⟩]):=by
 unfold act;rw[jZ.sW h,show eH.la 1 x ⟨#[]⟩=ak from by unfold eH.la;simp,aP,ay];have hn:FY (base o) 1 qv x ⟨#[]⟩=aj (base o++[⟨qv,x,0⟩]):=by unfold FY;rw[afV];dsimp only;rw[bC rfl,aha]
 rw[hn];dsimp only;rw[FC h hx ⟨by omega,by omega⟩];rfl
theorem a2{o:aC au}{x:au}(h:(bt o).size<=20000)(hx:x.size<=20000):act (base o++[⟨qv,x,0⟩]) 2 qv ⟨#[]⟩ ⟨#[]⟩=aj (base o++[⟨qv,x,x.size⟩]):=by
 unfold act;rw[FC h hx ⟨by omega,by omega⟩,show eH.la 2 ⟨#[]⟩ ⟨#[]⟩=ak from by unfold eH.la;simp,aP,ay];have hn:FY (base o++[⟨qv,x,0⟩]) 2 qv ⟨#[]⟩ ⟨#[]⟩=aj (base o++[⟨qv,x,x.size⟩]):=by unfold FY;rw[Qh];dsimp only;rw[bM (by omega),bC rfl,acw]
 rw[hn];dsimp only;rw[FC h hx ⟨by omega,by omega⟩];rfl
theorem a3{o:aC au}{x:au}(h:(bt o).size<=20000)(hx:x.size<=20000):act (base o++[⟨qv,x,x.size⟩]) 3 qv ⟨#[]⟩ qu=aj (base (aj x)):=by
 unfold act;rw[FC h hx ⟨by omega,by omega⟩,show eH.la 3 ⟨#[]⟩ qu=ak from by unfold eH.la;simp,aP,ay];have hn:FY (base o++[⟨qv,x,x.size⟩]) 3 qv ⟨#[]⟩ qu=aj (base (aj x)):=by unfold FY;rw[Qh];dsimp only;rw[bM (by omega),bM (by omega),bC rfl,bM (by rintro (h|h);exact h rfl;exact nKN h),mov];rfl
 rw[hn];dsimp only;rw[jZ.sW (o:=aj x) hx];rfl
theorem al6{o:aC au}{x:au}(h:(bt o).size<=20000)(hx:x.size<=20000):mA (base o) 0 (yH x)=(base (aj x),3):=by unfold yH mA;dsimp only;rw[a1 h hx];dsimp only;unfold mA;dsimp only;rw[a2 h hx];dsimp only;unfold mA;dsimp only;rw[a3 h hx];rfl
theorem abf(l:aA En)(TP:∀x∈l,Dd x=ak):∀(d i:aG) (acc:au),d+i=l.length->mz.fs (re l) d i acc=aj (acc++tx (l.drop i)):=by
 intro d;induction d with
 |zero=>
  intro i acc h;have:i=l.length:=by omega
  subst this;rw[dq];exact mi aj (pT).symm
 |succ d ih=>
  intro i acc h;have hi:i<l.length:=by omega
  have h0:mz.eo (re l) i=true:=by unfold mz.eo;rw[qw hi,tV hi,show aw (re l) i 2=CV.i ar (el l i).li from tW hi,show aw (re l) i 3=CV.s (el l i).bo from tX hi];exact TP _ (oH hi)
  have h1:mz.tx (re l) i=jZ.rR l[i]:=by unfold mz.tx;rw[qw hi,tV hi,show aw (re l) i 2=CV.i ar (el l i).li from tW hi,show aw (re l) i 3=CV.s (el l i).bo from tX hi,eU hi];rfl
  rw[mz.ET,bC h0,h1,ih (i+1) _ (by omega),dJ hi,BR];rfl
end vd

namespace ou
open Lib (En Fi Px Cl Fe el re rd rf rc rs rr)
open gG (So l8)
open eH (uY mA Ac ra)
open jZ (rR Dd Jk tx kp base bt yQ)
open vd (yH)
open nt (afO)
def dk(o:aC (aA En)):aA Fi:=base (o.map tx)
def es(o:aC (aA En)):aA En:=o.getD []
theorem GA(o:aC (aA En)):bt (o.map tx)=tx (es o):=by cases o<;>rfl
theorem Qb(o:aC (aA En)):(dk o).length<=1:=by cases o<;>simp[dk,base]
theorem K7{o:aC (aA En)}(h:(tx (es o)).size<=20000):uY (dk o)=true:=jZ.sW (by rw[GA];exact h)
theorem aeH{o:aC (aA En)}(h:(tx (es o)).size<=20000)(he:∀e∈es o,Dd e=ak):(U118.c (rd (dk o))=ak/\U118.v (rd (dk o))=re (kp (es o)))/\(rG.c (rd (dk o))=ak/\rG.v (rd (dk o))=re (kp (es o))):=by refine jZ.fk (dk o) (es o) ⟨#[]⟩ (K7 h) ?_ he (.inl rfl);unfold dk;rw[jZ.MC,GA];exact(pT).symm
theorem Uy{o:aC (aA En)}{e:En}(h:(tx (es o)).size+(Jk e).size<=20000):mA (dk o) 0 (yQ (Jk e))=(dk (aj (es o++[e])),2):=by unfold dk;rw[jZ.Q0 (by rw[GA];exact h),GA,iS,jZ.WZ]
theorem Ux{o:aC (aA En)}{l:aA En}(h:(tx (es o)).size<=20000)(hl:(tx l).size<=20000):mA (dk o) 0 (yH (tx l))=(dk (aj l),3):=vd.al6 (by rw[GA];exact h) hl
theorem aeG{o:aC (aA En)}{l:aA En}(hs:(tx (es o)).size<=20000)(TP:∀x∈l,Dd x=ak):mz.val (rd (dk o)) (re l)=(ra (yH (tx l)),ak):=by
 unfold mz.val;rw[show dF.val (rd (dk o))=ak from K7 hs,ay,dU,vd.abf l TP l.length 0 ⟨#[]⟩ (by omega),fB];have uS:(mK.val (rd (dk o)) mz.nm).2=false:=by unfold dk;rw[jZ.fileAt,show mz.nm=vd.qv from rfl,vd.afV]
 dsimp only;rw[uS,show(⟨#[]⟩:au)++tx l=tx l from oX];rfl
end ou

namespace gW
open Lib (rr rs re rf rc Px En el)
open gG (So fG l8 fT)
open jT (yX)
def H7:aA az:=[0,0,0,0,0,0,0,0,0,0,0,0,0,0,0,0]
def p0(now:az):Px:=⟨now,[],[],[],[H7,H7,H7],0,[],[],0⟩
def tQ(e:En)(now:az):aY:=IH.v e.k e.st e.li e.bo now
def one(now:az)(p:Px)(e:En):Px:=bif tQ e now then yX p e else p
def v9(now:az)(l:aA En):Px:=l.foldl (one now) (p0 now)
structure Inv (now:az) (i:aG) (p:Px):Prop where
 so:So p.en
 ks:∀e∈p.en,1<=e.k.size
 en:p.en.length<=i
 w:p.w.length<=i
 m:p.m.length<=i
 s:jv.lens p.s=[16,16,16]
 fe:p.fe=[]
 cl:p.cl=[]
 now:p.now=now
 hits:p.hits=0
theorem ang(now:az):Inv now 0 (p0 now):=⟨gJ,λe h=>(nomatch h),cu _,cu _,cu _,rfl,rfl,rfl,rfl,rfl⟩
theorem Q5{s:aA (aA az)}(h:jv.lens s=[16,16,16]):s.length=3/\(∀q∈s,q.length=16)/\(s.map bW).sum=48:=by
 refine⟨?_,λq hq=> ?_, ?_⟩
 ·have:=mi bW h;unfold jv.lens at this;simpa using this
 ·have:q.length∈jv.lens s:=cJ.2 ⟨q,hq,rfl⟩;rw[h]at this;simpa using this
 ·rw[show s.map bW=[16,16,16]from h];rfl
theorem Inv.fit{now:az}{i:aG}{p:Px}(h:Inv now i p){n:aG}(hn:i<=n)(h48:48<=n):p.Fit n:=by
 obtain⟨a,b,c⟩:=Q5 h.s;have hq:∀q∈p.s,q.length<=n:=λq hq=>by have:=b q hq;omega
 exact⟨db h.en hn,db h.w hn,db h.m hn,⟨by omega,hq,by omega⟩,by rw[h.fe];exact bL _,by rw[h.cl];exact bL _⟩
theorem Inv.up{now:az}{i:aG}{p:Px}(h:Inv now i p):Inv now (i+1) p:=⟨h.so,h.ks,mE h.en,mE h.w,mE h.m,h.s,h.fe,h.cl,h.now,h.hits⟩
theorem yt{en:aA En}(h:So en)(e:En):So (l8 en e):=by have:=(fL.vQ (gG.Bn h) e.k e.st e.li e.bo).1.1;rw[gG.sH]at this;unfold Lib.re at this;rw[jY]at this;exact this
theorem Inv.store{now:az}{i:aG}{p:Px}(h:Inv now i p)(e:En)(he:1<=e.k.size):Inv now (i+1) (yX p e):=by
 obtain⟨b1,b2,b3⟩:=jv.Ke p.w p.m p.s p.a e.k;have hw:=h.w;have hm:=h.m;have hn:=h.en;refine⟨?_, ?_, ?_,db b1 (by omega),db b2 (by omega),b3.trans h.s,h.fe,h.cl,h.now,h.hits⟩
 ·show So (bif _ then l8 (fG p.en _) e else fG p.en _);cases eW.has (jv.val p.w p.m p.s p.a e.k).1 e.k||eW.has (jv.val p.w p.m p.s p.a e.k).2.1 e.k with
  |true=>exact yt (h.so.drop _) e
  |false=>exact h.so.drop _
 ·show∀x∈(bif _ then l8 (fG p.en _) e else fG p.en _),1<=x.k.size;have hd:∀x∈fG p.en (jv.val p.w p.m p.s p.a e.k).2.2.2.2,1<=x.k.size:=λx hx=>h.ks x (du.1 hx).1;cases eW.has (jv.val p.w p.m p.s p.a e.k).1 e.k||eW.has (jv.val p.w p.m p.s p.a e.k).2.1 e.k with
  |true=>
   intro x hx;rw[ay]at hx;unfold l8 at hx;rcases a_.1 hx with hx|hx
   ·rcases a_.1 hx with hx|hx
    ·exact hd x (du.1 hx).1
    ·rw[aZ]at hx;rw[hx];exact he
   ·exact hd x (du.1 hx).1
  |false=>exact hd
 ·show(bif _ then l8 (fG p.en _) e else fG p.en _).length<=i+1;have d:=gG.vE p.en (jv.val p.w p.m p.s p.a e.k).2.2.2.2;have q:=gG.tn (fG p.en (jv.val p.w p.m p.s p.a e.k).2.2.2.2) e (h.so.drop _);cases eW.has (jv.val p.w p.m p.s p.a e.k).1 e.k||eW.has (jv.val p.w p.m p.s p.a e.k).2.1 e.k with
  |true=>rw[ay];omega
  |false=>rw[aD];omega
theorem ES{e:En}{now:az}(h:tQ e now=ak):iM.v e.k e.st e.li e.bo=true:=by
 unfold tQ IH.v at h;cases hq:iM.v e.k e.st e.li e.bo with
 |true=>rfl
 |false=>rw[show Ar.v e.k e.st e.li e.bo=aq from hq]at h;cases h
theorem A8(now:az)(l:aA En):∀i,i<=l.length->Inv now i (v9 now (l.take i)):=by
 intro i;induction i with
 |zero=>intro _;exact ang now
 |succ i ih=>
  intro hi;have h:=ih (by omega);have e:v9 now (l.take (i+1))=one now (v9 now (l.take i)) l[i]:=by unfold v9;rw[c8 (by omega),pW];rfl
  rw[e];unfold one;cases hf:tQ l[i] now with
  |true=>exact h.store _ (iM.F7 (ES hf)).1.1
  |false=>exact h.up
theorem HL(now:az)(l:aA En)(i:aG)(h:i<l.length):v9 now (l.take (i+1))=one now (v9 now (l.take i)) (el l i):=by unfold v9;rw[c8 h,pW,eU h];rfl
end gW

namespace kZ
open Lib (rr rs re rf rc Px)
theorem ok(p:Px)(hp:p.Fit 1048576):c p.now (re p.en) (rs p.w) (rs p.m) (rr p.s) p.a (rf p.fe) (rc p.cl) p.hits=ak/\v p.now (re p.en) (rs p.w) (rs p.m) (rr p.s) p.a (rf p.fe) (rc p.cl) p.hits=(p.now,re p.en,rs p.w,rs p.m,rr p.s,p.a,rf p.fe,rc p.cl,p.hits):=by have he:=hp.en;have hf:=hp.fe;have hc:=hp.cl;have h2:=fS.ok p.w p.m p.s p.a hp.w hp.m ⟨hp.s.1,hp.s.2.1⟩;exact out _ _ _ _ _ _ _ _ _ (by unfold vo b;rw[h2.1,h2.2,ay,Lib.cy (b:=48) (by simp[aT,dU];omega) (by simp[aT,dU];omega),Lib.cy (b:=56) (by simp[aT,dL];omega) (by simp[aT,dL];omega),Lib.cy (b:=72) (by simp[aT,eR];omega) (by simp[aT,eR];omega)];rfl)
end kZ

namespace IE
open Lib (rr rs re rf rc Px)
def later(now n:az):az:=bif decide (now>1000000000-n%1000)then 1000000000 else bN (now+n%1000)
def val(p:Px)(n:az):Px:={p with now:=later p.now n}
theorem tm(n:az):(0<=cG n 1000->cG n 1000=n%1000)/\(cG n 1000<0->cG n 1000+1000=n%1000):=by
 rw[Int.tmod_eq_emod];by_cases h:0<=n\/(1000:az)∣n
 ·rw[bC h];constructor<;>omega
 ·rw[bM h];have hd:¬(1000:az)∣n:=λx=>h (.inr x);have:n%1000≠0:=λe=>hd (Int.dvd_of_emod_eq_zero e);constructor<;>simp<;>omega
theorem ok(p:Px)(n:az)(hp:p.Fit 1048576):c p.now (re p.en) (rs p.w) (rs p.m) (rr p.s) p.a (rf p.fe) (rc p.cl) p.hits n=ak/\v p.now (re p.en) (rs p.w) (rs p.m) (rr p.s) p.a (rf p.fe) (rc p.cl) p.hits n=((val p n).now,re p.en,rs p.w,rs p.m,rr p.s,p.a,rf p.fe,rc p.cl,p.hits):=by
 have h:=kZ.ok p hp;refine out _ _ _ _ _ _ _ _ _ _ ?_;have t:=tm n;unfold vo b val later;simp only[Lib.lt,h.1,h.2,ay];by_cases hn:cG n 1000<0
 ·have e:=t.2 hn;rw[aJ hn,ay,e,dh (x:=n%1000) (by omega) (by omega),dh (x:=1000000000-n%1000) (by omega) (by omega)];cases decide (p.now>1000000000-n%1000)<;>rfl
 ·have e:=t.1 (by omega);rw[aM hn,aD,e,dh (x:=1000000000-n%1000) (by omega) (by omega)];cases decide (p.now>1000000000-n%1000)<;>rfl
end IE

namespace Gq
open Lib (rr rs re rf rc Px Cl el Ki Te Tf Tg Th Ti Tj)
def val(p:Px)(id:az):Px:={p with cl:=p.cl.filter λc=> !decide (c.id=id)}
theorem ok(p:Px)(id:az)(hp:p.Fit 1048576):c p.now (re p.en) (rs p.w) (rs p.m) (rr p.s) p.a (rf p.fe) (rc p.cl) p.hits id=ak/\v p.now (re p.en) (rs p.w) (rs p.m) (rr p.s) p.a (rf p.fe) (rc p.cl) p.hits id=(p.now,re p.en,rs p.w,rs p.m,rr p.s,p.a,rf p.fe,rc (val p id).cl,p.hits):=by
 have h:=kZ.ok p hp;have hc:=hp.cl;refine out _ _ _ _ _ _ _ _ _ _ ?_;unfold vo b;simp only[Lib.lt,h.1,h.2,ay];have key:=ml p.cl.length (λn (i:aG) (x:aW)=>l4 Lib.c9 (λ(_ _ _:az) (_ _ _ _:aW) (_:az) (_ _:aW) (_ _ _ _ TX y38 y39:az) (y40 y41 W9 W_ NR y45:aW)=>aj (TX,y40,y41,W9,W_,y38,NR,y45,y39)) n id (i:az) p.now (re p.en) (rs p.w) (rs p.m) (rr p.s) p.a (rf p.fe) (rc p.cl) p.hits 0 0 0 p.now p.a p.hits (re p.en) (rs p.w) (rs p.m) (rr p.s) (rf p.fe) x) (λi=>rc ((p.cl.take i).filter λc=> !decide (c.id=id))) (aj (p.now,re p.en,rs p.w,rs p.m,rr p.s,p.a,rf p.fe,rc (val p id).cl,p.hits)) (λn i hi=>by
  have hlen:((p.cl.take i).filter λc=> !decide (c.id=id)).length<=i:=by refine db (eK ..) ?_;rw[eu];omega
  have e:(p.cl.take (i+1)).filter (λc=> !decide (c.id=id))=(p.cl.take i).filter (λc=> !decide (c.id=id))++(bif !decide ((el p.cl i).id=id)then [el p.cl i]else []):=by rw[c8 hi,iP,eU hi];cases hd:decide (p.cl[i].id=id)<;>simp[hd]
  rw[e];simp only[l4,r4,eR,Lib.dE,hi,aR,Lib.cS,aP,ay,Lib.eG,Ki hi,Te hi,Tf hi,Tg hi,Th hi,Ti hi,Tj hi,bH,bY,o9,bw,Lib.de hi (by omega:p.cl.length<=9223372036854775807)];rw[Lib.cy (by omega) (by omega),ay,show((el p.cl i).id !=id)= !decide ((el p.cl i).id=id)from rfl];cases decide ((el p.cl i).id=id)with
  |true=>rw[ba,aD,aD,dn]
  |false=>rw[bX,ay,ay];unfold Lib.rc;rw[dm];rfl) (λn=>by
  simp only[l4,r4,eR,Lib.dE,bu,bm,aD,fH];rfl) Lib.c9 0 (bL _) (cU (by omega))
 exact key
end Gq

namespace j4
open Lib (En Fi Px Cl Fe el)
open jZ (kp Dd)
open pZ (cls lY)
open gg (rm rB)
open ed (jr)
open ou (dk es)
structure Wo where
 p:Px
 o:aC (aA En)
 cd:aA az
 bd:aA En
structure Ev where
 k:az
 id:az
 t:au
 n:az
 l:aW
def flag(b:aY):az:=bif b then 0 else 1
def nc(w:Wo):aA En:=(kp (es w.o)).filter λe=>gW.tQ e w.p.now
def closed(w:Wo)(id life:az):Wo×az:=
 let q:=cls w.p id life
 (bif q.2&&decide (life>0)then{w with p:=q.1,o:=aj (es w.o++[lY (el q.1.fe id.toNat)]),bd:=w.bd++[lY (el q.1.fe id.toNat)]}else{w with p:=q.1},flag q.2)
def EL(w:Wo):Wo:={w with p:=gW.v9 w.p.now (nc w),o:=aj (nc w)}
def act(w:Wo)(e:Ev):Wo×az:=
 bif decide (e.k=1)then({w with p:=(ed.ask w.p e.id e.t).1},(ed.ask w.p e.id e.t).2)
 else bif decide (e.k=2)then({w with p:=(rB w.p e.id e.t).1},flag (rB w.p e.id e.t).2)
 else bif decide (e.k=3)then closed w e.id (e.n%1000000)
 else bif decide (e.k=4)then({w with p:=(rm w.p e.id).1},flag (rm w.p e.id).2)
 else bif decide (e.k=5)then({w with p:=IE.val w.p e.n},0)
 else bif decide (e.k=6)then({w with p:=Gq.val w.p e.id},flag (jr w.p.cl e.id))
 else(EL w,0)
def step(w:Wo)(e:Ev):Wo:={(act w e).1 with cd:=w.cd++[(act w e).2]}
def o8(e:Ev):aY:=decide (1<=e.k/\e.k<=7)&&(decide (0<=e.id/\e.id<=30)&&(decide (e.t.size<=60)&&(decide (0<=e.n)&&decide (e.l.length<=4))))
end j4

namespace nP
open Lib (Px Cl Fe En el)
open eW (has gp)
open jm (eB rQ)
open m7 (tP FV K8)
open m8 (nr lV apart)
open pY (FT iZ)
open gG (So fT)
def FU(now:az)(nf:aG)(c:Cl):aY:=
 decide (1<=c.id/\c.id<=9)&&(eB c.k&&(decide (1<=c.sta/\c.sta<=3)&&(decide (0<=c.fe/\c.fe<=(nf:az))&&(decide ((c.got.size:az)<=400)&&(decide (0<=c.fr/\c.fr<=now)&&decide (0<=c.age))))))
structure fC (p:Px):Prop where
 now:1<=p.now/\p.now<=1000000000
 en:∀e∈p.en,tP e=ak
 so:So p.en
 ek:∀e∈p.en,e.k∈p.w\/e.k∈p.m
 pol:rQ p.w p.m p.s p.a=ak
 len:p.w.length+p.m.length=p.en.length
 fl:p.fe.length<=20
 fe:∀f∈p.fe,nr p.now f=ak
 ap:p.fe.Pairwise λf g=>lV g f=aq
 cll:p.cl.length<=6
 cl:∀c∈p.cl,FU p.now p.fe.length c=ak
 cs:p.cl.Pairwise λc d=>c.id<d.id
 hits:0<=p.hits/\p.hits<=1000000000
theorem RV{α:Type}(R:α->α->Prop)(tr:∀x y z,R x y->R y z->R x z)(l:aA α)(h:∀i (hi:i+1<l.length),R (l[i]) (l[i+1])):l.Pairwise R:=by
 rw[dv];have adj:∀d i (hi:i+d+1<l.length),R (l[i]) (l[i+d+1]):=by
  intro d;induction d with
  |zero=>intro i hi;exact h i hi
  |succ d ih=>intro i hi;exact tr _ _ _ (ih i (by omega)) (h (i+d+1) (by omega))
 intro i j hi hj M0;have:=adj (j-i-1) i (by omega);simp only[show i+(j-i-1)+1=j by omega]at this;exact this
theorem JC(x y z:au)(a:fT x y=ak)(b:fT y z=ak):fT x z=true:=fL.qf _ _ _ a b
theorem ag2{p:Px}(h:iZ p=ak):fC p:=by
 obtain⟨h1,h2,h3,h4,h5,h6,h7⟩:_/\_/\_/\_/\_/\_/\_:=by unfold iZ at h;simpa only[aK,bf,bn,oY]using h
 obtain⟨g1,g2,g3⟩:_/\_/\_:=by unfold K8 at h2;simpa only[aK,bf,bn,oY]using h2
 have e1:∀i (hi:i<p.en.length),tP p.en[i]=ak/\(0<i->fT (el p.en (i-1)).k p.en[i].k=ak)/\(p.en[i].k∈p.w\/p.en[i].k∈p.m):=λi hi=>by have:=g1 i hi;unfold FV at this;simp only[aK,dH,bf,eU hi,gp]at this;exact⟨this.1,λh0=>this.2.1.resolve_left (by omega),this.2.2⟩
 have c1:∀i (hi:i<p.cl.length),FU p.now p.fe.length p.cl[i]=ak/\(0<i->(el p.cl (i-1)).id<p.cl[i].id):=λi hi=>by have:=h7 i hi;unfold FT at this;unfold FU;simp only[aK,dH,bf,eU hi]at this⊢;exact⟨⟨this.1,this.2.2⟩,λh0=>this.2.1.resolve_left (by omega)⟩
 have f1:∀i (hi:i<p.fe.length),nr p.now p.fe[i]=ak/\∀j (hj:j<i),lV p.fe[i] (p.fe[j]'(by omega))=false:=λi hi=>by
  have:=h6 i hi;unfold apart at this;simp only[bn,oY,eU hi]at this;refine⟨this.1,λj hj=> ?_⟩
  have h:=this.2 j hj;rw[eU (show j<p.fe.length by omega)]at h;simpa using h
 refine⟨h1,λe he=> ?_, ?_,λe he=> ?_,g2,g3,h3,λf hf=> ?_, ?_,h4,λc hc=> ?_, ?_,h5⟩
 ·obtain⟨i,hi,rfl⟩:=da he;exact(e1 i hi).1
 ·refine RV (λx y:En=>fT x.k y.k=ak) (λx y z a b=>JC _ _ _ a b) p.en λi hi=> ?_;have:=(e1 (i+1) hi).2.1 (by omega);rw[NV,eU (show i<p.en.length by omega)]at this;exact this
 ·obtain⟨i,hi,rfl⟩:=da he;exact(e1 i hi).2.2
 ·obtain⟨i,hi,rfl⟩:=da hf;exact(f1 i hi).1
 ·rw[dv];intro i j hi hj M0;exact(f1 j hj).2 i M0
 ·obtain⟨i,hi,rfl⟩:=da hc;exact(c1 i hi).1
 ·refine RV (λc d:Cl=>c.id<d.id) (λx y z a b=>Int.lt_trans a b) p.cl λi hi=> ?_;have:=(c1 (i+1) hi).2 (by omega);rw[NV,eU (show i<p.cl.length by omega)]at this;exact this
theorem afX{p:Px}(h:fC p):iZ p=true:=by
 unfold iZ K8;simp only[aK,bf,bn,oY];refine⟨h.now,⟨λi hi=> ?_,h.pol,h.len⟩,h.fl,h.cll,h.hits,λi hi=>⟨?_, ?_⟩,λi hi=> ?_⟩
 ·unfold FV;simp only[aK,dH,bf,eU hi,gp];refine⟨h.en _ (bD hi), ?_,h.ek _ (bD hi)⟩
  by_cases h0:i=0
  ·exact .inl h0
  ·right;rw[eU (show i-1<p.en.length by omega)];exact dv.1 h.so (i-1) i (by omega) hi (by omega)
 ·rw[eU hi];exact h.fe _ (bD hi)
 ·unfold apart;simp only[bn,oY];intro j hj;rw[eU hi,eU (show j<p.fe.length by omega),dv.1 h.ap j i (by omega) hi hj];rfl
 ·have hc:=h.cl _ (bD hi);unfold FU at hc;unfold FT;simp only[aK,dH,bf,eU hi]at hc⊢;refine⟨hc.1, ?_,hc.2⟩
  by_cases h0:i=0
  ·exact .inl h0
  ·right;rw[eU (show i-1<p.cl.length by omega)];exact dv.1 h.cs (i-1) i (by omega) hi (by omega)
theorem mR{p:Px}:iZ p=ak↔fC p:=⟨ag2,afX⟩
end nP

namespace Gc
open eW (has without gp jR)
open jm (eB mO rQ)
open fy (nH LG rD)
theorem ji{w m:aA au}{s:aA (aA az)}{a:az}:rQ w m s a=ak↔((∀k∈w++m,eB k=ak)/\(w++m).Nodup)/\w.length<=2/\m.length<=4/\nH s a=true:=by unfold rQ;rw[aK,aK,aK,bf,bf,jv.uV]
theorem Fu{s:aA (aA az)}{a:az}:nH s a=ak↔s.length=3/\(0<=a/\a<=63)/\∀q∈s,q.length=16/\∀n∈q,0<=n/\n<=15:=by unfold nH rD LG;simp only[aK,bf,bn]
theorem J3{s:aA (aA az)}{a:az}(key:au)(h:nH s a=ak):nH (fK.val s a key).1 (fK.val s a key).2=true:=by
 unfold fK.val;rw[h,ay];obtain⟨h1,h2,h3⟩:=Fu.1 h;obtain⟨b1,b2⟩:=fK.sa (key:=key) h1 h3;by_cases ha:a+1=64
 ·rw[aJ ha,ay,Fu];unfold fK.half;refine⟨by rw[bQ];exact b1,by omega,λq hq=> ?_⟩
  obtain⟨r,hr,rfl⟩:=cJ.1 hq;refine⟨by rw[bQ];exact(b2 r hr).1,λn hn=> ?_⟩
  obtain⟨k,hk,rfl⟩:=cJ.1 hn;have:=(b2 r hr).2 k hk;rw[gE this.1];omega
 ·rw[aM ha,aD,Fu];exact⟨b1,by omega,b2⟩
theorem Fb{k:au}(h:eB k=ak):k≠⟨#[]⟩:=by intro e;rw[e]at h;exact cq h (by decide)
theorem sL{w m:aA au}{s:aA (aA az)}{a:az}{key:au}(h:rQ w m s a=ak)(hk:eB key=ak):
  rQ (jv.val w m s a key).1 (jv.val w m s a key).2.1 (jv.val w m s a key).2.2.1 (jv.val w m s a key).2.2.2.1=ak
  /\∀x,x∈(jv.val w m s a key).1\/x∈(jv.val w m s a key).2.1↔(x∈w\/x∈m\/x=key)/\x≠(jv.val w m s a key).2.2.2.2:=by
 obtain⟨⟨k1,nd⟩,l1,l2,hs⟩:=ji.1 h;have Lv:=J3 key hs;have kn:=Fb hk;have wn:∀x,x∈w\/x∈m->x≠⟨#[]⟩:=λx hx=>Fb (k1 x (a_.2 hx));unfold jv.val;rw[h,hk,aP,ay];generalize fK.val s a key=V at Lv;obtain⟨S,A⟩:=V;dsimp only at Lv⊢;rw[ea]at nd;obtain⟨n1,n2,n3⟩:=nd;have hwo:∀l:aA au,l.Nodup->(without l key).Nodup/\(∀x,x∈without l key↔x∈l/\x≠key):=λl hl=>by unfold without;exact⟨hl.sublist js,λx=>by simp⟩
 cases h1:has w key with
 |true=>
  have hm:=gp.1 h1;obtain⟨o1,o2⟩:=hwo w n1;have o3:=eW.oS h1;dsimp only[ay];refine⟨ji.2 ⟨⟨λk hx=> ?_, ?_⟩,by simp;omega,l2,Lv⟩,λx=> ?_⟩
  ·simp only[a_,aZ,o2]at hx;rcases hx with (hx|rfl)|hx
   ·exact k1 _ (a_.2 (.inl hx.1))
   ·exact hk
   ·exact k1 _ (a_.2 (.inr hx))
  ·simp only[ea,a_,aZ,o2];grind
  ·simp only[a_,aZ,o2];grind
 |false=>
  rw[aD];have hw:=jR.1 h1;cases h2:has m key with
  |true=>
   have hm:=gp.1 h2;obtain⟨o1,o2⟩:=hwo m n2;have o3:=eW.oS h2;dsimp only[ay];refine⟨ji.2 ⟨⟨λk hx=> ?_, ?_⟩,l1,by simp;omega,Lv⟩,λx=> ?_⟩
   ·simp only[a_,aZ,o2]at hx;rcases hx with hx|hx|rfl
    ·exact k1 _ (a_.2 (.inl hx))
    ·exact k1 _ (a_.2 (.inr hx.1))
    ·exact hk
   ·simp only[ea,a_,aZ,o2];grind
   ·simp only[a_,aZ,o2];grind
  |false=>
   rw[aD];have hmn:=jR.1 h2;have n7:∀x,x∈w++[key]\/x∈m↔x∈w\/x∈m\/x=key:=λx=>by simp only[a_,aZ];grind
   have Qz:∀x,x∈w++[key]\/x∈m->eB x=true:=λx hx=>by
    rcases(n7 x).1 hx with hx|hx|rfl
    ·exact k1 _ (a_.2 (.inl hx))
    ·exact k1 _ (a_.2 (.inr hx))
    ·exact hk
   have He:(w++[key]).Nodup/\∀x∈w++[key],x∉m:=by simp only[ea,a_,aZ];grind
   have hlen:(w++[key]).length=w.length+1:=by simp
   generalize w++[key]=W at n7 Qz He hlen;obtain⟨d1,d2⟩:=He;by_cases h3:W.length<=2
   ·rw[aJ h3,ay];refine⟨ji.2 ⟨⟨λk hx=>Qz k (a_.1 hx), ?_⟩,h3,l2,Lv⟩,λx=> ?_⟩
    ·simp only[ea];grind
    ·dsimp only;rw[n7];grind
   ·rw[aM h3,aD];cases W with
    |nil=>simp at hlen
    |cons x0 t=>
     rw[j6]at d1;rw[c7]at hlen;have hg:(x0::t).getD 0 ⟨#[]⟩=x0:=rfl;have ht:(x0::t).tail=t:=rfl;rw[hg,ht];by_cases h4:m.length<4
     ·rw[aJ h4,ay];refine⟨ji.2 ⟨⟨λk hx=>Qz k ?_, ?_⟩,by dsimp only;omega,by simp;omega,Lv⟩,λx=> ?_⟩
      ·simp only[a_,aZ,cz]at hx⊢;grind
      ·simp only[ea,a_,aZ,cz]at d2⊢;grind
      ·dsimp only;rw[<-n7];simp only[a_,aZ,cz];grind
     ·rw[aM h4,aD];cases m with
      |nil=>simp at h4
      |cons y0 u=>
       rw[j6]at n2;rw[c7]at l2 h4;have X1:(y0::u).getD 0 ⟨#[]⟩=y0:=rfl;have E1:(y0::u).tail=u:=rfl;rw[X1,E1];cases decide (lX.val S A x0>lX.val S A y0)with
       |true=>
        rw[ay];refine⟨ji.2 ⟨⟨λk hx=>Qz k ?_, ?_⟩,by dsimp only;omega,by simp;omega,Lv⟩,λx=> ?_⟩
        ·simp only[a_,aZ,cz]at hx⊢;grind
        ·simp only[ea,a_,aZ,cz]at d2⊢;grind
        ·dsimp only;rw[<-n7];simp only[a_,aZ,cz]at d2⊢;grind
       |false=>
        rw[aD];refine⟨ji.2 ⟨⟨λk hx=>Qz k ?_, ?_⟩,by dsimp only;omega,by simp;omega,Lv⟩,λx=> ?_⟩
        ·simp only[a_,cz]at hx⊢;grind
        ·simp only[ea,j6,cz]at d2⊢;grind
        ·dsimp only;rw[<-n7];simp only[cz]at d2⊢;grind
end Gc

namespace yC
open Lib (Px Cl Fe En el)
open eW (has without gp jR)
open jm (eB rQ)
open m7 (tP)
open m8 (nr lV)
open pY (iZ)
open gG (So fT fG l8)
open jT (yX)
open nP (fC FU mR)
open Gc (ji sL)
open gg (qV told rm rB ix)
theorem XQ{p:Px}(h:fC p){n:az}(h1:p.now<=n)(h2:n<=1000000000):fC {p with now:=n}:=by
 have:=h.now;refine⟨⟨by dsimp only;omega,h2⟩,h.en,h.so,h.ek,h.pol,h.len,h.fl,λf hf=> ?_,h.ap,h.cll,λc hc=> ?_,h.cs,h.hits⟩
 ·have:=h.fe f hf;unfold nr at this⊢;simp only[aK,bf]at this⊢;exact⟨this.1,this.2.1,this.2.2.1,this.2.2.2.1,this.2.2.2.2.1,yF this.2.2.2.2.2 h1⟩
 ·have:=h.cl c hc;unfold FU at this⊢;simp only[aK,bf]at this⊢;exact⟨this.1,this.2.1,this.2.2.1,this.2.2.2.1,this.2.2.2.2.1,⟨this.2.2.2.2.2.1.1,yF this.2.2.2.2.2.1.2 h1⟩,this.2.2.2.2.2.2⟩
theorem zZ{p:Px}{n:aG}{g:Fe}{st:az}(h:fC p)(hn:n<p.fe.length)(hk:g.k=(el p.fe n).k)(hg:nr p.now g=ak)(hs:g.sta=1->(el p.fe n).sta=1)(h1:1<=st/\st<=3):fC (told p n g st):=by
 rw[eU hn]at hk hs;refine⟨h.now,h.en,h.so,h.ek,h.pol,h.len, ?_,λf hf=> ?_, ?_, ?_,λc hc=> ?_, ?_,h.hits⟩
 ·show(p.fe.set n g).length<=20;rw[cw];exact h.fl
 ·rcases gV hf with q|rfl
  ·exact h.fe f q
  ·exact hg
 ·show(p.fe.set n g).Pairwise _;rw[dv];intro i j hi hj M0;rw[cw]at hi hj;have:=dv.1 h.ap i j hi hj M0;rw[PF,PF];unfold lV at this⊢;by_cases e1:n=i
  ·by_cases e2:n=j
   ·omega
   ·subst e1;simp only[if_true,e2,if_false];rw[hk];by_cases e3:g.sta=1
    ·rw[hs e3]at this;rw[e3];exact this
    ·rw[aM e3];simp
  ·by_cases e2:n=j
   ·subst e2;simp only[e1,if_true,if_false];rw[hk];by_cases e3:g.sta=1
    ·rw[hs e3]at this;rw[e3];exact this
    ·rw[aM e3];simp
   ·simp only[e1,e2,if_false];exact this
 ·show(rS.j8 p.cl n st g.t).length<=6;unfold rS.j8;rw[bQ];exact h.cll
 ·have G7:c∈rS.j8 p.cl n st g.t:=hc;unfold rS.j8 at G7;obtain⟨d,hd,rfl⟩:=cJ.1 G7;have h2:=h.cl d hd;show FU p.now (p.fe.set n g).length _=ak;rw[cw];unfold rS.ec;cases decide (d.fe=(n:az)+1)&&decide (d.sta=1)with
  |false=>exact h2
  |true=>rw[ay];unfold FU at h2⊢;unfold nr at hg;simp only[aK,bf]at h2 hg⊢;exact⟨h2.1,h2.2.1,h1,h2.2.2.2.1,hg.2.1,h2.2.2.2.2.2⟩
 ·show(rS.j8 p.cl n st g.t).Pairwise _;unfold rS.j8;rw[jY];refine h.cs.imp λ{a b} hab=> ?_;have e:∀d:Cl,(rS.ec n st g.t d).id=d.id:=λd=>by unfold rS.ec;cases decide (d.fe=(n:az)+1)&&decide (d.sta=1)<;>rfl
  rw[e,e];exact hab
theorem Lb{p:Px}(h:fC p){n:aG}(hn:n<p.fe.length):eB (el p.fe n).k=ak/\((el p.fe n).t.size:az)<=400/\(1<=(el p.fe n).sta/\(el p.fe n).sta<=3)/\(0<=(el p.fe n).li/\(el p.fe n).li<=999999)/\0<=(el p.fe n).st/\(el p.fe n).st<=p.now:=by have:=h.fe _ (oH hn);unfold nr at this;simpa only[aK,bf]using this
theorem IP{p:Px}(f:az)(h:fC p):fC (rm p f).1:=by
 unfold rm;cases ho:qV p f with
 |false=>exact h
 |true=>obtain⟨n,rfl,hn,_,h1⟩:=ix ho;obtain⟨g1,g2,g3,g4,g5⟩:=Lb h hn;refine zZ h hn rfl ?_ (λe=>cq e (by dsimp only;omega)) (by omega);unfold nr;simp only[aK,bf];exact⟨g1,g2,by omega,g4,g5⟩
theorem JT{p:Px}(f:az)(t:au)(h:fC p):fC (rB p f t).1:=by
 unfold rB;cases ho:qV p f&&(decide (1<=t.size/\t.size<=40)&&decide ((el p.fe f.toNat).t.size+t.size<=400))with
 |false=>exact h
 |true=>
  simp only[aK,bf]at ho;obtain⟨n,rfl,hn,_,h1⟩:=ix ho.1;obtain⟨g1,g2,g3,g4,g5⟩:=Lb h hn;rw[dA]at ho;refine zZ h hn rfl ?_ (λ_=>h1) (by omega);unfold nr;simp only[aK,bf];refine⟨g1, ?_,g3,g4,g5⟩
  show((((el p.fe n).t++t).size:aG):az)<=400;rw[dC];omega
def My(en:aA En)(w m:aA au):Prop:=∀k,k∈w\/k∈m↔∃e∈en,e.k=k
theorem HX{en:aA En}(h:So en):(en.map λe=>e.k).Nodup:=by rw[oZ,jY];refine h.imp λ{a b} hab e=> ?_;rw[e]at hab;unfold fT at hab;rw[fL.oi]at hab;cases hab
theorem zW{p:Px}(h:fC p):My p.en p.w p.m:=by
 obtain⟨⟨_,nd⟩,_⟩:=ji.1 h.pol;have ne:=HX h.so;have sub:(p.en.map λe=>e.k)⊆p.w++p.m:=λx hx=>by obtain⟨e,he,rfl⟩:=cJ.1 hx;exact a_.2 (h.ek e he)
 intro k;constructor
 ·intro hk;have hk:k∈p.w++p.m:=a_.2 hk;refine za λhn=> ?_;have nn:(k::p.en.map λe=>e.k).Nodup:=j6.2 ⟨λhx=>hn (by obtain⟨e,he,q⟩:=cJ.1 hx;exact⟨e,he,q⟩),ne⟩;have:=nn.length_le_of_subset (l₂:=p.w++p.m) (λx hx=>by
   rcases cz.1 hx with rfl|hx
   ·exact hk
   ·exact sub hx)
  have hl:=h.len;simp only[c7,bQ,bP]at this;omega
 ·rintro ⟨e,he,rfl⟩;exact h.ek e he
theorem of_same{en:aA En}{w m:aA au}{s:aA (aA az)}{a:az}(h:My en w m)(so:So en)(hp:rQ w m s a=ak):(∀e∈en,e.k∈w\/e.k∈m)/\w.length+m.length=en.length:=by
 obtain⟨⟨_,nd⟩,_⟩:=ji.1 hp;refine⟨λe he=>(h _).2 ⟨e,he,rfl⟩, ?_⟩
 have:=((List.perm_ext_iff_of_nodup nd (HX so)).2 λx=>by rw[a_,h x,cJ]).length_eq;rw[bP,bQ]at this;exact this
theorem iY{en:aA En}{k:au}{e:En}:e∈fG en k↔e∈en/\e.k≠k:=by unfold fG;simp
theorem mV{en:aA En}{x e:En}:x∈l8 en e↔x=e\/(x∈en/\x.k≠e.k):=by
 unfold l8;simp only[a_,du,aZ,dG,ij,gM];constructor
 ·rintro ((⟨h1,h2⟩|rfl)|⟨h1,h2⟩)
  ·refine .inr ⟨h1,λe2=> ?_⟩;rw[e2]at h2;unfold fT at h2;rw[fL.oi]at h2;cases h2
  ·exact .inl rfl
  ·exact .inr ⟨h1,h2.2⟩
 ·rintro (rfl|⟨h1,h2⟩)
  ·exact .inl (.inr rfl)
  ·cases hl:fT x.k e.k with
   |true=>exact .inl (.inl ⟨h1,rfl⟩)
   |false=>exact .inr ⟨h1,rfl,h2⟩
theorem yt{en:aA En}(h:So en)(e:En):So (l8 en e):=by have:=(fL.vQ (gG.Bn h) e.k e.st e.li e.bo).1.1;rw[gG.sH]at this;unfold Lib.re at this;rw[jY]at this;exact this
theorem Kb{p:Px}{e:En}(h:fC p)(he:tP e=ak):fC (yX p e):=by
 have hk:eB e.k=true:=by have:=(iM.F7 he).1;unfold eB;exact aJ (by omega)
 obtain⟨t1,t2⟩:=sL h.pol hk;have sm:=zW h;unfold yX;generalize jv.val p.w p.m p.s p.a e.k=V at t1 t2;obtain⟨W,M,S,A,G⟩:=V;dsimp only at t1 t2⊢;have key:∀en',So en'->(∀x∈en',tP x=ak)->My en' W M->fC ⟨p.now,en',W,M,S,A,p.fe,p.cl,p.hits⟩:=λen' o1 o2 o3=>by obtain⟨q1,q2⟩:=of_same o3 o1 t1;exact⟨h.now,o2,o1,q1,t1,q2,h.fl,h.fe,h.ap,h.cll,h.cl,h.cs,h.hits⟩
 have d1:So (fG p.en G):=h.so.drop G;have d2:∀x∈fG p.en G,tP x=true:=λx hx=>h.en x (iY.1 hx).1;cases hh:has W e.k||has M e.k with
 |true=>
  rw[ay];have gQ:e.k∈W\/e.k∈M:=by rwa[dH,gp,gp]at hh
  refine key _ (yt d1 e) (λx hx=> ?_) λk=> ?_
  ·rcases mV.1 hx with rfl|q
   ·exact he
   ·exact d2 x q.1
  ·rw[t2 k];have hg:=((t2 e.k).1 gQ).2;constructor
   ·rintro ⟨q,hn⟩;by_cases e1:k=e.k
    ·exact⟨e,mV.2 (.inl rfl),e1.symm⟩
    ·have q2:k∈p.w\/k∈p.m:=q.elim .inl λq=>q.elim .inr λq=>cq q e1;obtain⟨x,hx,rfl⟩:=(sm k).1 q2;exact⟨x,mV.2 (.inr ⟨iY.2 ⟨hx,hn⟩,e1⟩),rfl⟩
   ·rintro ⟨x,hx,rfl⟩;rcases mV.1 hx with rfl|q
    ·exact⟨.inr (.inr rfl),hg⟩
    ·obtain⟨q1,q2⟩:=iY.1 q.1;exact⟨((sm x.k).2 ⟨x,q1,rfl⟩).elim .inl λz=> .inr (.inl z),q2⟩
 |false=>
  rw[aD];have gQ:¬(e.k∈W\/e.k∈M):=by rw[<-gp,<-gp,<-dH,hh];simp
  have hg:e.k=G:=za λhn=>gQ ((t2 e.k).2 ⟨.inr (.inr rfl),hn⟩);refine key _ d1 d2 λk=> ?_;rw[t2 k];constructor
  ·rintro ⟨q,hn⟩;have q2:k∈p.w\/k∈p.m:=q.elim .inl λq=>q.elim .inr λq=>cq (q.trans hg) hn;obtain⟨x,hx,rfl⟩:=(sm k).1 q2;exact⟨x,iY.2 ⟨hx,hn⟩,rfl⟩
  ·rintro ⟨x,hx,rfl⟩;obtain⟨q1,q2⟩:=iY.1 hx;exact⟨((sm x.k).2 ⟨x,q1,rfl⟩).elim .inl λz=> .inr (.inl z),q2⟩
end yC

namespace Ez
theorem eq(k:au)(s l:az)(b:au)(n:az):IH.v k s l b n=Ez.v k s l b n:=by
 have e:Ar.v k s l b=iM.v k s l b:=rfl;unfold IH.v Ez.v;rw[e];cases h:iM.v k s l b with
 |false=>rfl
 |true=>
  have hs:(0<=s/\s<=1000000000)/\1<=l/\l<=999999:=by unfold iM.v at h;cases h1:Gr.v k<;>rw[h1]at h<;>simp only[ay,aD,dp]at h;cases h2:kG.v s 0 1000000000<;>rw[h2]at h<;>simp only[ay,aD,dp]at h;cases h3:kG.v l 1 999999<;>rw[h3]at h<;>simp only[ay,aD,dp]at h;simp[kG.v]at h2 h3;omega
  simp only[ay,Aq.v,od.v,kG.v,c_,bf];by_cases h1:0<=n/\n<=1000000000
  ·rw[jS (x:=n-s) (by omega) (by omega),jS (x:=s+l) (by omega) (by omega),jS (x:=s+l-1) (by omega) (by omega)];by_cases h2:s<=n<;>by_cases h3:n-s<l<;>simp[h1,h2,h3]<;>omega
  ·by_cases h2:s<=n<;>by_cases h3:0<=n<;>by_cases h4:n<=1000000000<;>simp[h2,h3,h4]<;>omega
end Ez

namespace z8
open Lib (Px Cl Fe En el)
open eW (has without gp jR)
open jm (eB rQ)
open m7 (tP)
open m8 (nr lV)
open pY (iZ)
open gG (So fT fG l8)
open nP (fC FU mR)
open Gc (ji sL J3 Fb)
open yC (My zW of_same iY)
open ed (X4 n9 put Cr CE Bm jr jn qk tQ)
theorem WY(l:aA Cl)(n:az):(l.filter λx=>decide (x.id<n)).length+(l.filter λx=>decide (x.id>n)).length<=l.length:=by
 induction l with
 |nil=>exact cu _
 |cons y l ih=>
  simp only[List.filter_cons];by_cases h1:y.id<n
  ·rw[aJ h1,aM (show¬y.id>n by omega)];simp only[if_true,dp,if_false,c7];omega
  ·rw[aM h1];by_cases h2:y.id>n
   ·rw[aJ h2];simp only[if_true,dp,if_false,c7];omega
   ·rw[aM h2];simp only[dp,if_false,c7];omega
theorem YL{l:aA Cl}{c:Cl}(cs:l.Pairwise λa b=>a.id<b.id):(jn l c).length<=l.length+1/\((jn l c).Pairwise λa b=>a.id<b.id)/\∀x∈jn l c,x=c\/x∈l:=by
 unfold jn;refine⟨?_, ?_,λx hx=> ?_⟩
 ·have:=WY l c.id;simp only[bP,c7,ju];omega
 ·rw[cj,tG];refine⟨cs.filter _, ?_,λa ha b hb=> ?_⟩
  ·rw[tH,p9];exact⟨λb hb=>b9 (du.1 hb).2,cs.filter _⟩
  ·have ha:=b9 (du.1 ha).2;rcases a_.1 hb with hb|hb
   ·rw[aZ]at hb;rw[hb];exact ha
   ·have hb:=b9 (du.1 hb).2;omega
 ·rcases a_.1 hx with hx|hx
  ·rcases a_.1 hx with hx|hx
   ·exact .inr (du.1 hx).1
   ·exact .inl (aZ.1 hx)
  ·exact .inr (du.1 hx).1
theorem WX{w m:aA au}{s:aA (aA az)}{a:az}{key:au}(h:key∈w\/key∈m):(jv.val w m s a key).2.2.2.2=⟨#[]⟩:=by
 unfold jv.val;cases rQ w m s a&&eB key with
 |false=>rfl
 |true=>
  rw[ay];cases h1:has w key with
  |true=>rfl
  |false=>have h2:has m key=true:=gp.2 (h.resolve_left (jR.1 h1));rw[h2];rfl
theorem Ta{w m:aA au}{s:aA (aA az)}{a:az}{key:au}(h:rQ w m s a=ak)(hk:eB key=ak):(has (jv.val w m s a key).1 key||has (jv.val w m s a key).2.1 key)=true:=by
 obtain⟨⟨k1,nd⟩,l1,l2,hs⟩:=ji.1 h;rw[dH,gp,gp];refine((sL h hk).2 key).2 ⟨.inr (.inr rfl), ?_⟩;have kn:=Fb hk;unfold jv.val;rw[h,hk,aP,ay];cases h1:has w key with
 |true=>exact kn
 |false=>
  rw[aD];have hw:=jR.1 h1;cases h2:has m key with
  |true=>exact kn
  |false=>
   rw[aD];have hm:=jR.1 h2;by_cases h3:(w++[key]).length<=2
   ·rw[aJ h3];exact kn
   ·rw[aM h3,aD];have ic:(w++[key]).getD 0 ⟨#[]⟩≠key:=by
     cases w with
     |nil=>simp at h3
     |cons x w=>intro e;exact hw (by rw[<-e];simp)
    by_cases h4:m.length<4
    ·rw[aJ h4];exact kn
    ·rw[aM h4,aD];cases decide (lX.val (fK.val s a key).1 (fK.val s a key).2 ((w++[key]).getD 0 ⟨#[]⟩)>lX.val (fK.val s a key).1 (fK.val s a key).2 (m.getD 0 ⟨#[]⟩))with
     |true=>
      intro e;cases m with
      |nil=>simp at h4
      |cons x m=>exact hm (by rw[e];simp)
     |false=>exact λe=>ic e.symm
theorem abt{p:Px}{id:az}{key:au}{e:En}(h:fC p)(B3:1<=id/\id<=9)(hk:eB key=ak)(hl:p.cl.length<6)(he:e∈p.en)(hek:e.k=key)(Ju:e.st<=p.now):fC (X4 p id key e):=by
 have gQ:key∈p.w\/key∈p.m:=by rw[<-hek];exact h.ek e he
 obtain⟨t1,t2⟩:=sL h.pol hk;have tg:=WX (s:=p.s) (a:=p.a) gQ;have sm:=zW h;have hr:=iM.F7 (h.en e he);obtain⟨j1,j2,j3⟩:=YL (c:=⟨id,key,0,e.st,2,e.bo,p.now-e.st⟩) h.cs;unfold X4;generalize jv.val p.w p.m p.s p.a key=V at t1 t2 tg;obtain⟨W,M,S,A,G⟩:=V;dsimp only at t1 t2 tg⊢;subst tg;have sm2:My p.en W M:=λk=>by
  rw[t2 k];refine Iff.trans ?_ (sm k);constructor
  ·rintro ⟨q|q|rfl,_⟩
   ·exact .inl q
   ·exact .inr q
   ·exact gQ
  ·intro q;refine⟨q.elim .inl λq=> .inr (.inl q), ?_⟩
   obtain⟨x,hx,rfl⟩:=(sm k).1 q;have:=(iM.F7 (h.en x hx)).1;intro e;rw[e]at this;exact cq this.1 (by decide)
 obtain⟨q1,q2⟩:=of_same sm2 h.so t1;refine⟨h.now,h.en,h.so,q1,t1,q2,h.fl,h.fe,h.ap,by dsimp only;omega,λc hc=> ?_,j2, ?_⟩
 ·rcases j3 c hc with rfl|hc
  ·unfold FU;simp only[aK,bf];exact⟨B3,hk,by omega,⟨by omega,by omega⟩,by omega,⟨by omega,Ju⟩,by omega⟩
  ·exact h.cl c hc
 ·have:=h.hits;dsimp only;by_cases hh:p.hits<1000000000
  ·rw[aJ hh,ay];omega
  ·rw[aM hh,aD];exact this
theorem FE{l:aA au}{k x:au}:x∈without l k↔x∈l/\x≠k:=by unfold without;simp
theorem Fl{p:Px}{id:az}{key:au}{h:aY}{fe:aA Fe}{i:aG}(ho:fC p)(B3:1<=id/\id<=9)(hk:eB key=ak)(hl:p.cl.length<6)(hn:p.fe.length<=fe.length)(MW:fe.length<=20)(hf:∀f∈fe,nr p.now f=ak)(hap:fe.Pairwise λf g=>lV g f=aq)(hi:i<fe.length)(hp:h=aq->True):fC (put p id key h fe i):=by
 obtain⟨⟨k1,nd⟩,l1,l2,hs⟩:=ji.1 ho.pol;have Lv:=J3 key hs;have sm:=zW ho;obtain⟨j1,j2,j3⟩:=YL (c:=⟨id,key,(i:az)+1,0,1,(el fe i).t,0⟩) ho.cs;have hfi:=hf _ (oH hi);have ng:∀c∈jn p.cl ⟨id,key,(i:az)+1,0,1,(el fe i).t,0⟩,FU p.now fe.length c=true:=λc hc=>by
  rcases j3 c hc with rfl|hc
  ·unfold nr at hfi;unfold FU;simp only[aK,bf]at hfi⊢;have:=ho.now;exact⟨B3,hk,by omega,⟨by omega,by omega⟩,hfi.2.1,⟨by omega,by omega⟩,by omega⟩
  ·have:=ho.cl c hc;unfold FU at this⊢;simp only[aK,bf]at this⊢;exact⟨this.1,this.2.1,this.2.2.1,⟨this.2.2.2.1.1,by omega⟩,this.2.2.2.2⟩
 unfold put;cases h with
 |false=>have UY:rQ p.w p.m (fK.val p.s p.a key).1 (fK.val p.s p.a key).2=true:=ji.2 ⟨⟨k1,nd⟩,l1,l2,Lv⟩;exact⟨ho.now,ho.en,ho.so,ho.ek,UY,ho.len,MW,hf,hap,by dsimp only;omega,ng,j2,ho.hits⟩
 |true=>
  have UY:rQ (without p.w key) (without p.m key) (fK.val p.s p.a key).1 (fK.val p.s p.a key).2=true:=by
   refine ji.2 ⟨⟨λk hx=> ?_, ?_⟩,db eW.gZ l1,db eW.gZ l2,Lv⟩
   ·rcases a_.1 hx with q|q
    ·exact k1 k (a_.2 (.inl (FE.1 q).1))
    ·exact k1 k (a_.2 (.inr (FE.1 q).1))
   ·have:without p.w key++without p.m key=(p.w++p.m).filter λx=> !decide (x=key):=by unfold without;rw[iP]
    rw[this];exact nd.sublist js
  have sm2:My (fG p.en key) (without p.w key) (without p.m key):=λk=>by
   rw[FE,FE];constructor
   ·intro q;have ic:k≠key:=q.elim (·.2) (·.2);obtain⟨x,hx,rfl⟩:=(sm k).1 (q.elim (λq=> .inl q.1) (λq=> .inr q.1));exact⟨x,iY.2 ⟨hx,ic⟩,rfl⟩
   ·rintro ⟨x,hx,rfl⟩;obtain⟨hx,ic⟩:=iY.1 hx;exact((sm x.k).2 ⟨x,hx,rfl⟩).elim (λq=> .inl ⟨q,ic⟩) (λq=> .inr ⟨q,ic⟩)
  have so:=ho.so.drop key;obtain⟨q1,q2⟩:=of_same sm2 so UY;exact⟨ho.now,λe he=>ho.en e (iY.1 he).1,so,q1,UY,q2,MW,hf,hap,by dsimp only;omega,ng,j2,ho.hits⟩
theorem LF{p:Px}{id:az}{key:au}{h:aY}(ho:fC p)(B3:1<=id/\id<=9)(hk:eB key=ak)(hl:p.cl.length<6):fC (n9 p id key h).1:=by
 unfold n9;cases hop:CE p.fe key with
 |some i=>have hi:i<p.fe.length:=(mg.1 hop).1;exact Fl ho B3 hk hl (cu _) ho.fl ho.fe ho.ap hi (λ_=>trivial)
 |none=>
  dsimp only;by_cases MW:p.fe.length<20
  ·rw[aJ MW,ay];have uS:∀f∈p.fe,Bm key f=false:=λf hf=>by have:=pG.1 hop f hf;simpa using this
   have amT:=ho.now;refine Fl ho B3 hk hl (by simp) (by simp;omega) (λf hf=> ?_) ?_ (by simp) (λ_=>trivial)
   ·rcases a_.1 hf with q|q
    ·exact ho.fe f q
    ·rw[aZ]at q;subst q;unfold nr qk;simp only[aK,bf];exact⟨hk,by show((0:aG):az)<=400;omega,by omega,by omega,by omega,by omega⟩
   ·rw[tG];refine⟨ho.ap,by simp,λa ha b hb=> ?_⟩
    rw[aZ]at hb;subst hb;have:=uS a ha;unfold Bm at this;unfold lV qk;dsimp only;revert this;rw[show decide (key=a.k)=decide (a.k=key)from by rw[ch];exact GV];cases decide (a.k=key)<;>cases decide (a.sta=1)<;>simp
  ·rw[aM MW];exact ho
theorem IK{p:Px}(id:az)(key:au)(h:fC p):fC (ed.ask p id key).1:=by
 unfold ed.ask;cases hg:iZ p&&(decide (1<=id/\id<=9)&&(eB key&&(!jr p.cl id&&decide (p.cl.length<6))))with
 |false=>exact h
 |true=>
  simp only[aK,bf]at hg;obtain⟨_,B3,hk,_,hl⟩:=hg;rw[ay];cases he:Cr p.en key with
  |none=>exact LF h B3 hk hl
  |some e=>
   dsimp only;cases hf:tQ e p.now with
   |false=>exact LF h B3 hk hl
   |true=>
    unfold Cr at he;have h1:=FO he;have h2:=List.find?_some he;refine abt h B3 hk hl h1 (b9 h2) ?_;unfold tQ at hf;rw[Ez.eq]at hf;unfold Ez.v at hf;rw[show iM.v e.k e.st e.li e.bo=ak from h.en e h1,ay,show kG.v p.now e.st 1000000000=decide (e.st<=p.now/\p.now<=1000000000)from fy.eQ _ _ _]at hf;cases hd:decide (e.st<=p.now/\p.now<=1000000000)with
    |true=>exact(b9 hd).1
    |false=>rw[hd]at hf;cases hf
end z8

namespace DL
open Lib (Px Cl Fe En el)
open nP (fC FU mR)
open yC (XQ)
theorem Dv{now n:az}(h:1<=now/\now<=1000000000):now<=IE.later now n/\IE.later now n<=1000000000:=by
 unfold IE.later;have:=Ua n (show(1000:az)≠0 by omega);have:=NT n (show(0:az)<1000 by omega);by_cases hc:now>1000000000-n%1000
 ·rw[aJ hc,ay];omega
 ·rw[aM hc,aD,dh (by omega) (by omega)];omega
theorem Wz{p:Px}(n:az)(h:fC p):fC (IE.val p n):=XQ h (Dv h.now).1 (Dv h.now).2
theorem Hq{p:Px}(id:az)(h:fC p):fC (Gq.val p id):=
 ⟨h.now,h.en,h.so,h.ek,h.pol,h.len,h.fl,h.fe,h.ap,db (eK _ _) h.cll,λc hc=>h.cl c (du.1 hc).1,h.cs.sublist js,h.hits⟩
end DL

namespace jA
open Lib (Px Cl Fe En el)
open eW (has gp)
open jm (eB rQ)
open m7 (tP)
open m8 (nr lV)
open pY (iZ)
open nP (fC FU mR)
open gg (qV told rm rB ix)
open pZ (cls lY)
open jT (yX)
open jZ (Dd Jk tx kp rR)
open ou (dk es)
open j4 (Wo Ev closed EL nc o8 flag)
open yC (zZ Lb IP JT Kb)
def on(l:aA Fe):aG:=l.countP λf=>decide (f.sta=1)
theorem vb5{x:az}(h:x<=1000000000):(bytesOf (Lib.vb x)).size<=5:=by
 rw[Lib.iy]
 exact Lib.z7 4 x (by have:(128:az)^5=34359738368:=by decide
                      omega)
theorem Qo{e:En}(h:Dd e=ak):(Jk e).size<=460:=by
 have hr:=iM.F7 h;have z1:=vb5 (x:=(e.k.size:az)) (by omega);have z2:=vb5 (x:=e.st) (by omega);have z3:=vb5 (x:=e.li) (by omega);have ht:(rR e).size<=445:=by unfold rR jP.rR;simp only[Lib.ly];omega
 have z4:=vb5 (x:=((rR e).size:az)) (by omega);unfold Jk fU.fr;rw[Lib.ly,Lib.ly,o7.size];omega
theorem aag(l:aA En)(h:∀e∈l,Dd e=ak):(tx l).size<=460*l.length:=by
 induction l with
 |nil=>exact cu _
 |cons e l ih=>have h1:=Qo (h e (by simp));have h2:=ih λx hx=>h x (by simp[hx]);have:(tx (e::l)).size=(Jk e).size+(tx l).size:=dC;rw[this,c7];omega
structure zk (i:aG) (w:Wo):Prop where
 px:fC w.p
 eo:∀e∈es w.o,Dd e=ak
 ct:2*(es w.o).length+on w.p.fe<=i
 cd:w.cd.length=i
 bd:w.bd.length<=i
 bo:∀e∈w.bd,Dd e=ak
theorem zk.len{i:aG}{w:Wo}(h:zk i w)(hi:i<=71):(es w.o).length<=35:=by have:=h.ct;omega
theorem zk.tx{i:aG}{w:Wo}(h:zk i w)(hi:i<=71):(tx (es w.o)).size<=16100:=by have:=aag _ h.eo;have:=h.len hi;omega
theorem JJ{l:aA Fe}{n:aG}{g:Fe}(hn:n<l.length):on (l.set n g)+(if(el l n).sta=1 then 1 else 0)=on l+(if g.sta=1 then 1 else 0):=by
 unfold on;rw[List.countP_set hn,eU hn];have hle:l[n].sta=1->1<=l.countP λf=>decide (f.sta=1):=λh=>List.countP_pos_iff.2 ⟨_,bD hn,aJ h⟩;generalize l.countP (λf=>decide (f.sta=1))=m at hle;by_cases h1:l[n].sta=1
 ·have:=hle h1;by_cases h2:g.sta=1
  ·rw[bC h1,bC h2,bC (aJ h1),bC (aJ h2)];omega
  ·rw[bC h1,bM h2,bC (aJ h1),bM (by rw[aM h2];simp)];omega
 ·by_cases h2:g.sta=1
  ·rw[bM h1,bC h2,bM (by rw[aM h1];simp),bC (aJ h2)];omega
  ·rw[bM h1,bM h2,bM (by rw[aM h1];simp),bM (by rw[aM h2];simp)];omega
theorem Sb{now:az}(hn:1<=now/\now<=1000000000)(l:aA En):fC (gW.v9 now l):=by
 have key:∀(l:aA En) (p:Px),fC p->fC (l.foldl (gW.one now) p):=by
  intro l;induction l with
  |nil=>intro p h;exact h
  |cons e l ih=>
   intro p h;rw[B_];refine ih _ ?_;unfold gW.one;cases hf:gW.tQ e now with
   |true=>exact Kb h (gW.ES hf)
   |false=>exact h
 refine key l _ ⟨hn,λe h=>(by cases h),gJ,λe h=>(by cases h), ?_,rfl,bL _,λf h=>(by cases h),gJ,bL _,λc h=>(by cases h),gJ,by show(0:az)<=0/\(0:az)<=1000000000;omega⟩;refine Gc.ji.2 ⟨⟨λk h=>(by cases h),List.nodup_nil⟩,bL _,bL _,Gc.Fu.2 ⟨rfl,by show(0:az)<=0/\(0:az)<=63;omega,λq hq=> ?_⟩⟩;have:q=gW.H7:=by change q∈[gW.H7,gW.H7,gW.H7]at hq;simp at hq;exact hq
 subst this;refine⟨rfl,λn hn=> ?_⟩
 unfold gW.H7 at hn;simp at hn;omega
theorem IZ{p:Px}{f life:az}(h:fC p)(hl:0<=life/\life<=999999):
  fC (cls p f life).1/\(((cls p f life).2=aq/\(cls p f life).1=p)\/((cls p f life).2=ak/\∃n:aG,f=(n:az)/\n<p.fe.length/\(cls p f life).1.fe=p.fe.set n {el p.fe n with sta:=2,li:=life,st:=p.now}/\(el p.fe n).sta=1/\
   (life>0->Dd (lY {el p.fe n with sta:=2,li:=life,st:=p.now})=ak/\(has (cls p f life).1.w (el p.fe n).k||has (cls p f life).1.m (el p.fe n).k)=ak))):=by
 unfold cls;cases ho:qV p f&&decide (0<=life/\life<=999999)with
 |false=>exact⟨h, .inl ⟨rfl,rfl⟩⟩
 |true=>
  rw[aK]at ho;obtain⟨n,rfl,hn,_,h1⟩:=ix ho.1;obtain⟨g1,g2,g3,g4,g5⟩:=Lb h hn;have amT:=h.now;rw[ay,dA];have ht:fC (told p n {el p.fe n with sta:=2,li:=life,st:=p.now} 2):=by refine zZ h hn rfl ?_ (λe=>cq e (by dsimp only;omega)) (by omega);unfold nr;simp only[aK,bf];exact⟨g1,g2,by omega,hl,by omega,by omega⟩
  have he:life>0->Dd (lY {el p.fe n with sta:=2,li:=life,st:=p.now})=true:=λM3=>by unfold Dd lY iM.v;dsimp only;rw[jm.iw,g1,ay,show kG.v p.now 0 1000000000=decide (0<=p.now/\p.now<=1000000000)from fy.eQ _ _ _,aJ (show 0<=p.now/\p.now<=1000000000 by omega),ay,show kG.v life 1 999999=decide (1<=life/\life<=999999)from fy.eQ _ _ _,aJ (show 1<=life/\life<=999999 by omega),ay];exact aJ g2
  by_cases M3:life>0
  ·rw[aJ M3,ay];have gQ:=z8.Ta (key:=(el p.fe n).k) ht.pol g1;exact⟨Kb ht (he M3), .inr ⟨rfl,n,rfl,hn,rfl,h1,λ_=>⟨he M3,gQ⟩⟩⟩
  ·rw[aM M3,aD];exact⟨ht, .inr ⟨rfl,n,rfl,hn,rfl,h1,λh=>cq h M3⟩⟩
theorem aaV(p:Px)(id:az)(key:au):on (ed.ask p id key).1.fe<=on p.fe+1:=by
 have hm:∀h,on (ed.n9 p id key h).1.fe<=on p.fe+1:=λh=>by
  unfold ed.n9;cases ed.CE p.fe key with
  |some i=>exact jc _
  |none=>
   dsimp only;cases decide (p.fe.length<20)with
   |true=>show on (p.fe++[ed.qk key])<=_;unfold on;rw[List.countP_append];exact cu _
   |false=>exact jc _
 unfold ed.ask;cases iZ p&&(decide (1<=id/\id<=9)&&(eB key&&(!ed.jr p.cl id&&decide (p.cl.length<6))))with
 |false=>exact jc _
 |true=>
  rw[ay];cases ed.Cr p.en key with
  |none=>exact hm _
  |some e=>
   dsimp only;cases ed.tQ e p.now with
   |false=>exact hm _
   |true=>exact jc _
theorem G5(w:Wo):(nc w).length<=(es w.o).length:=db (eK ..) (jZ.Q4 _)
theorem Lk{w:Wo}(h:∀e∈es w.o,Dd e=ak):∀e∈nc w,Dd e=true:=λe he=>h e (jZ.JB (du.1 he).1)
theorem zX{i:aG}{w:Wo}{e:Ev}(h:zk i w)(he:o8 e=ak):zk (i+1) (j4.step w e):=by
 unfold o8 at he;simp only[aK,bf]at he;obtain⟨hk,B3,ht,hn,hl⟩:=he;have hct:=h.ct;have hbd:=h.bd;have cdl:∀n:az,(w.cd++[n]).length=i+1:=λn=>by rw[bP,h.cd];rfl
 have px':∀(p:Px) (n:az),fC p->on p.fe<=on w.p.fe+1->zk (i+1) {{w with p:=p}with cd:=w.cd++[n]}:=λp n hp ho=>⟨hp,h.eo,by dsimp only;omega,cdl n,mE h.bd,h.bo⟩
 unfold j4.step j4.act;by_cases k1:e.k=1
 ·rw[aJ k1,ay];exact px' _ _ (z8.IK _ _ h.px) (aaV ..)
 rw[aM k1,aD];by_cases k2:e.k=2
 ·rw[aJ k2,ay];refine px' _ _ (JT _ _ h.px) ?_;unfold rB;cases ho:qV w.p e.id&&(decide (1<=e.t.size/\e.t.size<=40)&&decide ((el w.p.fe e.id.toNat).t.size+e.t.size<=400))with
  |false=>exact jc _
  |true=>
   rw[aK]at ho;obtain⟨n,en,hn,_,h1⟩:=ix ho.1;rw[en,dA];have q:∀g:Fe,g.sta=(el w.p.fe n).sta->on (w.p.fe.set n g)<=on w.p.fe+1:=λg hg=>by have:=JJ (g:=g) hn;rw[hg]at this;omega
   exact q _ rfl
 rw[aM k2,aD];by_cases k3:e.k=3
 ·rw[aJ k3,ay];have hlr:0<=e.n%1000000/\e.n%1000000<=999999:=by omega
  obtain⟨q1,q2⟩:=IZ (f:=e.id) h.px hlr;unfold closed;dsimp only;rcases q2 with ⟨r1,r2⟩|⟨r1,n,rn,hn,rf,rs,rl⟩
  ·rw[r1,pD,aD];exact px' _ _ q1 (by rw[r2];exact jc _)
  ·have:=JJ (g:={el w.p.fe n with sta:=2,li:=e.n%1000000,st:=w.p.now}) hn;rw[bC rs,bM (show¬(2:az)=1 by omega)]at this;have ho:on (cls w.p e.id (e.n%1000000)).1.fe+1=on w.p.fe:=by rw[rf];exact this
   rw[r1,bj];by_cases M3:e.n%1000000>0
   ·rw[aJ M3,ay];obtain⟨s1,s2⟩:=rl M3;have hx:Dd (lY (el (cls w.p e.id (e.n%1000000)).1.fe e.id.toNat))=true:=by rw[rn,dA,<-rn,rf,gg.iE hn];exact s1
    refine⟨q1,λy hy=> ?_, ?_,cdl _, ?_,λy hy=> ?_⟩
    ·rcases a_.1 hy with hy|hy
     ·exact h.eo y hy
     ·rw[aZ]at hy;rw[hy];exact hx
    ·show 2*(es w.o++[_]).length+on (cls w.p e.id (e.n%1000000)).1.fe<=i+1;rw[bP,bw];omega
    ·show(w.bd++[_]).length<=i+1;rw[bP,bw];omega
    ·rcases a_.1 hy with hy|hy
     ·exact h.bo y hy
     ·rw[aZ]at hy;rw[hy];exact hx
   ·rw[aM M3,aD];exact px' _ _ q1 (by omega)
 rw[aM k3,aD];by_cases k4:e.k=4
 ·rw[aJ k4,ay];refine px' _ _ (IP _ h.px) ?_;unfold rm;cases ho:qV w.p e.id with
  |false=>exact jc _
  |true=>
   obtain⟨n,en,hn,_,h1⟩:=ix ho;rw[en,dA];have q:∀g:Fe,g.sta=3->on (w.p.fe.set n g)<=on w.p.fe+1:=λg hg=>by have:=JJ (g:=g) hn;rw[bC h1,bM (show¬g.sta=1 by omega)]at this;omega
   exact q _ rfl
 rw[aM k4,aD];by_cases k5:e.k=5
 ·rw[aJ k5,ay];exact px' _ _ (DL.Wz _ h.px) (jc _)
 rw[aM k5,aD];by_cases k6:e.k=6
 ·rw[aJ k6,ay];exact px' _ _ (DL.Hq _ h.px) (jc _)
 rw[aM k6,aD];have Lp:=G5 w;have hinv:=gW.A8 w.p.now (nc w) (nc w).length (cu _);rw[fH]at hinv;refine⟨Sb h.px.now _,Lk h.eo, ?_,cdl _,mE h.bd,h.bo⟩
 show 2*(nc w).length+on (gW.v9 w.p.now (nc w)).fe<=i+1;rw[hinv.fe];show 2*(nc w).length+0<=i+1;omega
end jA

namespace iq
open Lib (rr rs re rf rc rd Px En el qw tV tW tX)
open j4 (Wo Ev)
open ou (dk es)
def ri(l:aA az):aW:=l.map λn=>[CV.i ar n]
theorem gY(l:aA az):(ri l).length=l.length:=by unfold ri;simp
def Cj(w:Wo):az×aW×aW×aW×aW×az×aW×aW×az×aW×aW×aW:=(w.p.now,re w.p.en,rs w.p.w,rs w.p.m,rr w.p.s,w.p.a,rf w.p.fe,rc w.p.cl,w.p.hits,rd (dk w.o),ri w.cd,re w.bd)
theorem DH(l:aA En)(e:En):re l++aE (aT [Ck.s,Ck.i ar,Ck.i ar,Ck.s] 1) 0 [CV.s e.k,CV.i ar e.st,CV.i ar e.li,CV.s e.bo]=re (l++[e]):=by unfold Lib.re;rw[dm];rfl
theorem ahl(l:aA az)(n:az):ri l++aE (aT [Ck.i ar] 1) 0 [CV.i ar n]=ri (l++[n]):=by unfold ri;rw[dm];rfl
theorem apZ(l:aA En):aT [Ck.s,Ck.i ar,Ck.i ar,Ck.s] 0++re l=re l:=rfl
theorem ap0(l:aA az):aT [Ck.i ar] 0++ri l=ri l:=rfl
theorem tl(ks:aA Ck)(y:aA CV):(aE (aT ks 1) 0 y).length=1:=rfl
theorem iR{p:Px}(h:nP.fC p):p.Fit 1048576:=(jT.iR (nP.mR.2 h)).le (by omega)
theorem lt_eq{α β:Type}(x:α)(f:α->β):Lib.lt x f=f x:=by have h:∀y,y=Lib.lt x f->y=f x:=λy hy=>hy.trans (Eq.refl _);exact h _ (Eq.refl _)
end iq

namespace bS
def I(q:aW)(a:az):Prop:=0<=a/\a<=(q.length:az)/\q.length<=1048576
theorem F7(x:BitVec 64):0<=bN ((dR (i_ x (b_ 64 255)):aG):az)/\bN ((dR (i_ x (b_ 64 255)):aG):az)<=255:=by
 have h:dR (i_ x (b_ 64 255))<=255:=by have e:dR (i_ x (b_ 64 255))=x.toNat&&&255:=BitVec.toNat_and x (b_ 64 255);rw[e];exact Nat.and_le_right
 rw[dh (by omega) (by omega)];omega
theorem ok(q:aW)(a s:az)(hI:I q a):∃n a' s',c q a s=ak/\v q a s=(n,q,a',s')/\I q a'/\0<=n/\n<=255:=by
 obtain⟨h0,h1,h2⟩:=hI;by_cases h:a<(q.length:az)
 ·have hw:bN (a+1)=a+1:=dh (by omega) (by omega);have hvo:∃n s',vo q a s=aj (n,q,a+1,s')/\0<=n/\n<=255:=by unfold vo b;rw[aJ h,aJ h0,ay,aP,ay,hw];exact⟨_,_,rfl,F7 _⟩
  obtain⟨n,s',hv,hr⟩:=hvo;obtain⟨e1,e2⟩:=out q a s hv;exact⟨n,a+1,s',e1,e2,⟨by omega,by omega,h2⟩,hr⟩
 ·have hvo:∃n s',vo q a s=aj (n,q,a,s')/\0<=n/\n<=255:=by unfold vo b;rw[aM h,aD];exact⟨_,_,rfl,F7 _⟩
  obtain⟨n,s',hv,hr⟩:=hvo;obtain⟨e1,e2⟩:=out q a s hv;exact⟨n,a,s',e1,e2,⟨h0,h1,h2⟩,hr⟩
end bS

namespace gL
theorem ok(q:aW)(a s k:az)(hI:bS.I q a):∃n a' s',c q a s k=ak/\v q a s k=(n,q,a',s')/\bS.I q a'/\0<=n/\(0<k->n<k):=by
 by_cases hk:k<=0
 ·obtain⟨e1,e2⟩:=out q a s k (x:=(0,q,a,s)) (by unfold vo b;rw[aJ hk,ay]);exact⟨0,a,s,e1,e2,hI,by omega,λh=>by omega⟩
 ·have hm:∀x:az,0<=x->0<=cG x k/\cG x k<k:=λx hx=>by rw[rV hx];exact⟨Ua _ (by omega),NT _ (by omega)⟩
  have hk0:¬k=0:=by omega
  obtain⟨n1,a1,s1,c1,v1,I1,g1,u1⟩:=bS.ok q a s hI;by_cases h2:k<=256
  ·obtain⟨e1,e2⟩:=out q a s k (x:=(cG n1 k,q,a1,s1)) (by unfold vo b;simp only[hk,h2,hk0,c1,v1,aR,bm,ay,aD,bX]);exact⟨_,a1,s1,e1,e2,I1,(hm n1 g1).1,λ_=>(hm n1 g1).2⟩
  ·obtain⟨n2,a2,s2,c2,v2,I2,g2,u2⟩:=bS.ok q a1 s1 I1;obtain⟨n3,a3,s3,c3,v3,I3,g3,u3⟩:=bS.ok q a2 s2 I2;obtain⟨n4,a4,s4,c4,v4,I4,g4,u4⟩:=bS.ok q a3 s3 I3;have w1:bN (n1*16777216)=n1*16777216:=dh (by omega) (by omega);have w2:bN (n2*65536)=n2*65536:=dh (by omega) (by omega);have w3:bN (n3*256)=n3*256:=dh (by omega) (by omega);have w4:bN (n1*16777216+n2*65536)=n1*16777216+n2*65536:=dh (by omega) (by omega);have w5:bN (n1*16777216+n2*65536+n3*256)=n1*16777216+n2*65536+n3*256:=dh (by omega) (by omega);have w6:bN (n1*16777216+n2*65536+n3*256+n4)=n1*16777216+n2*65536+n3*256+n4:=dh (by omega) (by omega);obtain⟨e1,e2⟩:=out q a s k (x:=(cG (n1*16777216+n2*65536+n3*256+n4) k,q,a4,s4)) (by unfold vo b;simp only[hk,h2,hk0,c1,v1,c2,v2,c3,v3,c4,v4,w1,w2,w3,w4,w5,w6,aR,bm,ay,aD,bX]);have:=hm (n1*16777216+n2*65536+n3*256+n4) (by omega);exact⟨_,a4,s4,e1,e2,I4,this.1,λ_=>this.2⟩
end gL

namespace tK
theorem ok(q:aW)(a s k:az)(hI:bS.I q a):∃x a' s',c q a s k=ak/\v q a s k=(x,q,a',s')/\bS.I q a':=by obtain⟨n1,a1,s1,c1,v1,I1,g1,u1⟩:=gL.ok q a s k hI;obtain⟨e1,e2⟩:=out q a s k (x:=(decide (n1=0),q,a1,s1)) (by unfold vo b;simp only[c1,v1,ay]);exact⟨_,a1,s1,e1,e2,I1⟩
end tK

namespace yG
theorem ok(q:aW)(a s:az)(l:aW)(hI:bS.I q a)(hl:0<l.length):∃i a' s',c q a s l=ak/\v q a s l=(bY (aw l i 0),q,a',s',l)/\bS.I q a'/\i<l.length:=by obtain⟨n1,a1,s1,c1,v1,I1,g1,u1⟩:=gL.ok q a s (l.length:az) hI;have hu:=u1 (by omega);obtain⟨e1,e2⟩:=out q a s l (x:=(bY (aw l n1.toNat 0),q,a1,s1,l)) (by unfold vo b;simp only[c1,v1,g1,hu,aR,aP,ay]);exact⟨n1.toNat,a1,s1,e1,e2,I1,by omega⟩
end yG

namespace o6
theorem ok(q:aW)(a s:az)(l:aW)(hI:bS.I q a)(hl:0<l.length):∃i a' s',c q a s l=ak/\v q a s l=(bH (aw l i 0),q,a',s',l)/\bS.I q a'/\i<l.length:=by obtain⟨n1,a1,s1,c1,v1,I1,g1,u1⟩:=gL.ok q a s (l.length:az) hI;have hu:=u1 (by omega);obtain⟨e1,e2⟩:=out q a s l (x:=(bH (aw l n1.toNat 0),q,a1,s1,l)) (by unfold vo b;simp only[c1,v1,g1,hu,aR,aP,ay]);exact⟨n1.toNat,a1,s1,e1,e2,I1,by omega⟩
end o6

namespace tJ
theorem ok(q:aW)(a s:az)(hI:bS.I q a):∃k a' s',c q a s=ak/\v q a s=(k,q,a',s')/\bS.I q a'/\k.size=2:=by
 obtain⟨i,a1,s1,c1,v1,I1,g1⟩:=o6.ok q a s (aE (aE (aE (aE (aE (aE (aE (aE (aT [Ck.s] 8) 0 [CV.s {data:= #[ax 47,ax 97]}]) 1 [CV.s {data:= #[ax 47,ax 98]}]) 2 [CV.s {data:= #[ax 47,ax 99]}]) 3 [CV.s {data:= #[ax 47,ax 100]}]) 4 [CV.s {data:= #[ax 47,ax 101]}]) 5 [CV.s {data:= #[ax 47,ax 102]}]) 6 [CV.s {data:= #[ax 47,ax 103]}]) 7 [CV.s {data:= #[ax 47,ax 104]}]) hI (by simp[aT]);obtain⟨e1,e2⟩:=out q a s (x:=(_,q,a1,s1)) (by unfold vo b;simp only[c1,v1,ay];rfl);refine⟨_,a1,s1,e1,e2,I1, ?_⟩
 have g2:i<8:=by simpa [aT]using g1
 match i,g2 with
 |0,_=>rfl
 |1,_=>rfl
 |2,_=>rfl
 |3,_=>rfl
 |4,_=>rfl
 |5,_=>rfl
 |6,_=>rfl
 |7,_=>rfl
end tJ

namespace A_Post
open bS (I)
def gK{α:Type}(o:aC α)(P:α->Prop):Prop:=∃x,o=aj x/\P x
theorem ret{α:Type}{x:α}{P:α->Prop}(h:P x):gK (aj x) P:=⟨x,rfl,h⟩
theorem br{α:Type}{b:aY}{A B:aC α}{P:α->Prop}(h1:b=ak->gK A P)(h2:b=aq->gK B P):gK (bif b then A else B) P:=by
 cases b
 ·exact h2 rfl
 ·exact h1 rfl
theorem ck{α:Type}{b:aY}{A B:aC α}{P:α->Prop}(h:b=ak)(h1:gK A P):gK (bif b then A else B) P:=by subst h;exact h1
theorem cn{α:Type}{b:aY}{A B:aC α}{P:α->Prop}(h:b=aq)(h1:gK B P):gK (bif b then A else B) P:=by subst h;exact h1
theorem eq{α:Type}{o o':aC α}{P:α->Prop}(e:o=o')(h:gK o' P):gK o P:=by rw[e];exact h
theorem call{α β:Type}{b:aY}{w u:β}{X:β->aC α}{P:α->Prop}(h:b=ak)(e:w=u)(hx:gK (X u) P):gK (bif b then Lib.lt w X else ao) P:=by subst h;rw[ay,iq.lt_eq,e];exact hx
theorem below{α:Type}{q:aW}{a s k:az}{X:az×aW×az×az->aC α}{P:α->Prop}(hI:I q a)(hx:∀n a' s',I q a'->0<=n->(0<k->n<k)->gK (X (n,q,a',s')) P):gK (bif gL.c q a s k then Lib.lt (gL.v q a s k) X else ao) P:=by obtain⟨n,a',s',h1,h2,h3,h4,h5⟩:=gL.ok q a s k hI;exact call h1 h2 (hx n a' s' h3 h4 h5)
theorem once{α:Type}{q:aW}{a s k:az}{X:aY×aW×az×az->aC α}{P:α->Prop}(hI:I q a)(hx:∀n a' s',I q a'->gK (X (n,q,a',s')) P):gK (bif tK.c q a s k then Lib.lt (tK.v q a s k) X else ao) P:=by obtain⟨n,a',s',h1,h2,h3⟩:=tK.ok q a s k hI;exact call h1 h2 (hx n a' s' h3)
theorem Zj{α:Type}{q:aW}{a s:az}{l:aW}{X:az×aW×az×az×aW->aC α}{P:α->Prop}(R:az->Prop)(hR:0<l.length/\∀i,i<l.length->R (bY (aw l i 0)))(hI:I q a)(hx:∀n a' s',I q a'->R n->gK (X (n,q,a',s',l)) P):gK (bif yG.c q a s l then Lib.lt (yG.v q a s l) X else ao) P:=by obtain⟨n,a',s',h1,h2,h3,h4⟩:=yG.ok q a s l hI hR.1;exact call h1 h2 (hx _ a' s' h3 (hR.2 n h4))
theorem ag8{α:Type}{q:aW}{a s:az}{l:aW}{X:au×aW×az×az×aW->aC α}{P:α->Prop}(R:au->Prop)(hR:0<l.length/\∀i,i<l.length->R (bH (aw l i 0)))(hI:I q a)(hx:∀n a' s',I q a'->R n->gK (X (n,q,a',s',l)) P):gK (bif o6.c q a s l then Lib.lt (o6.v q a s l) X else ao) P:=by obtain⟨n,a',s',h1,h2,h3,h4⟩:=o6.ok q a s l hI hR.1;exact call h1 h2 (hx _ a' s' h3 (hR.2 n h4))
theorem key{α:Type}{q:aW}{a s:az}{X:au×aW×az×az->aC α}{P:α->Prop}(hI:I q a)(hx:∀n a' s',I q a'->n.size=2->gK (X (n,q,a',s')) P):gK (bif tJ.c q a s then Lib.lt (tJ.v q a s) X else ao) P:=by obtain⟨n,a',s',h1,h2,h3,h4⟩:=tJ.ok q a s hI;exact call h1 h2 (hx n a' s' h3 h4)
theorem idx{n:az}{m:aG}(h0:0<=n)(h1:0<(m:az)->n<(m:az))(hm:decide ((m:az)>0)=ak):(decide (0<=n)&&decide (n<(m:az)))=true:=by have:=h1 (b9 hm);rw[aJ h0,aJ this,aP]
end A_Post

namespace TY
open Lib (rr rs re rf rc rd Px En el)
open j4 (Wo Ev o8)
open ou (dk es)
open jA (zk)
open iq (ri Cj)
instance:Inhabited Ev:=⟨⟨0,0,⟨#[]⟩,0,[]⟩⟩
def Evr(e:Ev):aA CV:=[CV.i ar e.k,CV.i ar e.id,CV.s e.t,CV.i ar e.n,CV.l 3 e.l]
def rv(l:aA Ev):aW:=l.map Evr
def w0:Wo:=⟨gW.p0 1,ao,[],[]⟩
def run(l:aA Ev):Wo:=l.foldl j4.step w0
theorem ah2:zk 0 w0:=by refine⟨jA.Sb (now:=1) (by omega) [],λe h=>(by cases h),cu _,rfl,cu _,λe h=>(by cases h)⟩
def W13(w:Wo)(b:aY):az×aW×aW×aW×aW×az×aW×aW×az×aW×aW×aW×aY:=(w.p.now,re w.p.en,rs w.p.w,rs w.p.m,rr w.p.s,w.p.a,rf w.p.fe,rc w.p.cl,w.p.hits,rd (dk w.o),ri w.cd,re w.bd,b)
def amf(l:aA Ev):aY:=decide (l.length<=70)&&(cO l.length).all λi=>o8 (el l i)
def life(l:aA Ev):az×aW×aW×aW×aW×az×aW×aW×az×aW×aW×aW×aY:=bif amf l then W13 (run l) ak else(0,[],[],[],[],0,[],[],0,[],[],[],aq)
end TY

namespace Ol
open Lib (Px Cl Fe En el)
open jZ (kp Vm JB)
open gG (l8 fG)
open yC (iY mV)
open pZ (cls lY)
open gg (rm rB qV told iE)
open rS (j8 ec)
open ed (X4 n9 put Cr CE Bm jr jn qk)
open gW (tQ v9 one p0)
open jT (yX)
open j4 (Wo Ev closed EL nc o8 flag)
open ou (es)
open nP (fC)
open jA (zk)
def Gp(fe:aA Fe)(bd:aA En)(c:Cl):Prop:=
 (c.fe=0/\c.sta=2/\∃e∈bd,e.k=c.k/\e.st=c.fr/\e.bo=c.got/\e.li>c.age)\/
 ∃n:aG,c.fe=(n:az)+1/\n<fe.length/\(el fe n).k=c.k/\c.got=(el fe n).t/\(el fe n).sta=c.sta/\(1<=c.sta/\c.sta<=3)
structure Snd (w:Wo):Prop where
 st:∀e∈w.p.en,e.st<=w.p.now
 bd:∀e∈w.p.en,e∈w.bd
 ob:∀e∈es w.o,e∈w.bd
 fr:∀e∈w.p.en,tQ e w.p.now=ak->e∈kp (es w.o)
 cl:∀c∈w.p.cl,Gp w.p.fe w.bd c
theorem Gp.bd{fe:aA Fe}{b b':aA En}{c:Cl}(h:Gp fe b c)(hb:∀e∈b,e∈b'):Gp fe b' c:=by
 rcases h with ⟨h1,h2,e,he,h3⟩|h
 ·exact .inl ⟨h1,h2,e,hb e he,h3⟩
 ·exact .inr h
theorem ain{fe:aA Fe}{b:aA En}{c:Cl}(h:Gp fe b c)(g:Fe):Gp (fe++[g]) b c:=by
 rcases h with h|⟨n,h1,h2,h3,h4,h5,h6⟩
 ·exact .inl h
 ·have e:el (fe++[g]) n=el fe n:=by rw[eU (by rw[bP];omega),eU h2,DW h2]
  exact .inr ⟨n,h1,by rw[bP];omega,by rw[e];exact h3,by rw[e];exact h4,by rw[e];exact h5,h6⟩
theorem adG{p:Px}{b:aA En}{n:aG}{g:Fe}{st:az}(hn:n<p.fe.length)(ho:(el p.fe n).sta=1)(hk:g.k=(el p.fe n).k)(hg:g.sta=st)(h1:1<=st/\st<=3)(h:∀c∈p.cl,Gp p.fe b c):∀c∈(told p n g st).cl,Gp (told p n g st).fe b c:=by
 intro c hc;obtain⟨x,hx,rfl⟩:=cJ.1 (show c∈p.cl.map (ec n st g.t)from hc);have N9:=h x hx;show Gp (p.fe.set n g) b (ec n st g.t x);rcases N9 with h0|⟨m,m1,m2,m3,m4,m5,m6⟩
 ·have e:ec n st g.t x=x:=by unfold ec;rw[aM (show¬x.fe=(n:az)+1 by have:=h0.1;omega)];rfl
  rw[e];exact .inl h0
 ·by_cases hm:m=n
  ·subst hm;have e:ec m st g.t x={x with sta:=st,got:=g.t}:=by unfold ec;rw[aJ m1,aJ (show x.sta=1 by rw[<-m5];exact ho)];rfl
   rw[e];refine .inr ⟨m,m1,by rw[cw];exact m2, ?_, ?_, ?_,h1⟩
   ·rw[iE m2,hk];exact m3
   ·rw[iE m2]
   ·rw[iE m2];exact hg
  ·have e:ec n st g.t x=x:=by unfold ec;rw[aM (show¬x.fe=(n:az)+1 by omega)];rfl
   have e2:el (p.fe.set n g) m=el p.fe m:=by rw[eU (by rw[cw];exact m2),eU m2,List.getElem_set_ne (by omega)]
   rw[e];exact .inr ⟨m,m1,by rw[cw];exact m2,by rw[e2];exact m3,by rw[e2];exact m4,by rw[e2];exact m5,m6⟩
theorem Md{p:Px}{e x:En}(h:x∈(yX p e).en):x=e\/x∈p.en:=by
 unfold yX at h;dsimp only at h;cases hb:eW.has (jv.val p.w p.m p.s p.a e.k).1 e.k||eW.has (jv.val p.w p.m p.s p.a e.k).2.1 e.k with
 |true=>
  rw[hb,ay]at h;rcases mV.1 h with h|h
  ·exact .inl h
  ·exact .inr (iY.1 h.1).1
 |false=>rw[hb,aD]at h;exact .inr (iY.1 h).1
theorem WL{now:az}:∀(l:aA En),∀x∈(v9 now l).en,x∈l/\tQ x now=true:=by
 intro l;rw[<-List.reverse_reverse l];generalize l.reverse=r;induction r with
 |nil=>intro x hx;cases hx
 |cons e r ih=>
  intro x hx;rw[List.reverse_cons]at hx⊢;have e1:v9 now (r.reverse++[e])=one now (v9 now r.reverse) e:=by unfold v9;rw[pW];rfl
  rw[e1]at hx;unfold one at hx;cases hf:tQ e now with
  |false=>rw[hf,aD]at hx;exact⟨bO _ (ih x hx).1,(ih x hx).2⟩
  |true=>
   rw[hf,ay]at hx;rcases Md hx with rfl|hx
   ·exact⟨bI _ dy,hf⟩
   ·exact⟨bO _ (ih x hx).1,(ih x hx).2⟩
end Ol

namespace Oi
open Lib (rr rs re rf rc rd Px En Fe el)
open j4 (Wo Ev o8 closed EL nc)
open ou (dk es)
open jA (zk)
open iq (ri Cj)
open nP (fC)
open pZ (cls lY)
open gg (rm rB qV told)
open ed (n9 put Cr CE jr qk)
open yC (iY)
open bS (I)
open A_Post (gK)
structure K2 (w:Wo):Prop where
 en:∀e∈w.p.en,e.k.size=2
 fe:∀f∈w.p.fe,f.k.size=2
 o:∀e∈es w.o,e.k.size=2
theorem Zl{w:Wo}{id:az}{key:au}{b:aY}{fe:aA Fe}{i:aG}(h:K2 w)(hf:∀f∈fe,f.k.size=2):K2 {w with p:=put w.p id key b fe i}:=by
 refine⟨λx hx=> ?_,hf,h.o⟩
 unfold put at hx;cases b with
 |true=>exact h.en x (iY.1 hx).1
 |false=>exact h.en x hx
theorem Rb{w:Wo}{id:az}{key:au}{b:aY}(h:K2 w)(hk:key.size=2):K2 {w with p:=(n9 w.p id key b).1}:=by
 unfold n9;cases CE w.p.fe key with
 |some i=>exact Zl h h.fe
 |none=>
  dsimp only;cases decide (w.p.fe.length<20)with
  |true=>
   refine Zl h λf hf=> ?_;rcases a_.1 hf with hf|hf
   ·exact h.fe f hf
   ·rw[aZ.1 hf];exact hk
  |false=>exact h
theorem aey{w:Wo}{id:az}{key:au}(h:K2 w)(hk:key.size=2):K2 {w with p:=(ed.ask w.p id key).1}:=by
 unfold ed.ask;cases pY.iZ w.p&&(decide (1<=id/\id<=9)&&(jm.eB key&&(!jr w.p.cl id&&decide (w.p.cl.length<6))))with
 |false=>exact h
 |true=>
  rw[ay];cases Cr w.p.en key with
  |none=>exact Rb h hk
  |some e=>
   dsimp only;cases ed.tQ e w.p.now with
   |false=>exact Rb h hk
   |true=>exact⟨h.en,h.fe,h.o⟩
theorem Fy{w:Wo}{n:aG}{g:Fe}{st:az}(h:K2 w)(hn:n<w.p.fe.length)(hk:g.k=(el w.p.fe n).k):∀f∈(told w.p n g st).fe,f.k.size=2:=by
 intro f hf;rcases gV hf with hf|rfl
 ·exact h.fe f hf
 ·rw[hk];exact h.fe _ (oH hn)
theorem acO{w:Wo}{e:Ev}(h:K2 w)(ht:e.k=1->e.t.size=2):K2 (j4.step w e):=by
 have cd:∀{w:Wo} {l:aA az},K2 w->K2 {w with cd:=l}:=λh=>⟨h.en,h.fe,h.o⟩
 unfold j4.step;refine cd ?_;unfold j4.act;by_cases k1:e.k=1
 ·rw[aJ k1];exact aey h (ht k1)
 rw[aM k1,aD];cases decide (e.k=2)
 ·cases decide (e.k=3)
  ·cases decide (e.k=4)
   ·cases decide (e.k=5)
    ·cases decide (e.k=6)
     ·have V:=gW.A8 w.p.now (nc w) (nc w).length (cu _);rw[fH]at V;have hm:∀x∈nc w,x.k.size=2:=λx hx=>h.o x (jZ.JB (du.1 hx).1);have Ie:∀f∈(gW.v9 w.p.now (nc w)).fe,f.k.size=2:=λf hf=>by rw[V.fe]at hf;cases hf
      exact⟨λx hx=>hm x (Ol.WL _ x hx).1,Ie,hm⟩
     ·exact⟨h.en,h.fe,h.o⟩
    ·exact⟨h.en,h.fe,h.o⟩
   ·show K2 {w with p:=(rm w.p e.id).1};unfold rm;cases ho:qV w.p e.id with
    |false=>exact h
    |true=>obtain⟨n,en,hn,_,_⟩:=gg.ix ho;rw[en,dA,ay];exact⟨h.en,Fy h hn rfl,h.o⟩
  ·show K2 (closed w e.id (e.n%1000000)).1;unfold closed cls;dsimp only;cases ho:qV w.p e.id&&decide (0<=e.n%1000000/\e.n%1000000<=999999)with
   |false=>exact h
   |true=>
    rw[aK]at ho;obtain⟨n,en,hn,_,_⟩:=gg.ix ho.1;rw[en,dA,ay];by_cases M3:e.n%1000000>0
    ·rw[aJ M3,ay];dsimp only[bj,ay];have hE:(lY {el w.p.fe n with sta:=2,li:=e.n%1000000,st:=w.p.now}).k.size=2:=h.fe _ (oH hn);have ee:el (jT.yX (told w.p n {el w.p.fe n with sta:=2,li:=e.n%1000000,st:=w.p.now} 2) (lY {el w.p.fe n with sta:=2,li:=e.n%1000000,st:=w.p.now})).fe n={el w.p.fe n with sta:=2,li:=e.n%1000000,st:=w.p.now}:=gg.iE hn;rw[ee];refine⟨λx hx=> ?_,Fy (g:={el w.p.fe n with sta:=2,li:=e.n%1000000,st:=w.p.now}) (st:=2) h hn rfl,λx hx=> ?_⟩
     ·rcases Ol.Md hx with rfl|hx
      ·exact hE
      ·exact h.en x hx
     ·rcases a_.1 (show x∈es w.o++[_]from hx)with hx|hx
      ·exact h.o x hx
      ·rw[aZ.1 hx];exact hE
    ·rw[aM M3,aD];exact⟨h.en,Fy h hn rfl,h.o⟩
 ·show K2 {w with p:=(rB w.p e.id e.t).1};unfold rB;cases ho:qV w.p e.id&&(decide (1<=e.t.size/\e.t.size<=40)&&decide ((el w.p.fe e.id.toNat).t.size+e.t.size<=400))with
  |false=>exact h
  |true=>rw[aK]at ho;obtain⟨n,en,hn,_,_⟩:=gg.ix ho.1;rw[en,dA,ay];exact⟨h.en,Fy h hn rfl,h.o⟩
end Oi

namespace kS
open Lib (rr rs re rf rc Px En Fe Cl el)
open j4 (Wo)
open nP (fC)
open Oi (K2)
open pZ (cls lY)
open gg (rm rB qV told)
open rS (j8 ec)
open ed (n9 put Cr CE Bm jr qk jn)
abbrev nk:au:={data:= #[ax 47,ax 110,ax 101,ax 119]}
abbrev t1:au:={data:= #[ax 104,ax 101,ax 108,ax 108,ax 111]}
abbrev t2:au:={data:= #[ax 32,ax 116,ax 104,ax 101,ax 114,ax 101]}
abbrev t3:au:={data:= #[ax 104,ax 101,ax 108,ax 108,ax 111,ax 32,ax 116,ax 104,ax 101,ax 114,ax 101]}
def gf(t:au):Fe:=⟨nk,t,1,0,0⟩
def mk(n:aG)(st:az)(t:au)(i:az):Cl:=⟨i,nk,(n:az)+1,0,st,t,0⟩
structure St (F:aA Fe) (t:au) (L:aA az) (p:Px):Prop where
 ok:fC p
 en:∀e∈p.en,e.k.size=2
 fk:∀f∈F,f.k.size=2
 fe:p.fe=F++[gf t]
 cl:p.cl=L.map (mk F.length 1 t)
theorem GU{en:aA En}(h:∀e∈en,e.k.size=2):Cr en nk=none:=by unfold Cr;rw[p8];intro e he q;have:=h e he;rw[b9 q]at this;exact cq this (by decide)
theorem RM{f:Fe}(h:f.k.size=2):Bm nk f=false:=by unfold Bm;rw[aM (show¬f.k=nk from λe=>by rw[e]at h;exact cq h (by decide))];rfl
theorem RJ{fe:aA Fe}(h:∀f∈fe,f.k.size=2):CE fe nk=none:=by unfold CE;rw[pG];exact λf hf=>RM (h f hf)
theorem pk{F:aA Fe}{g:Fe}:el (F++[g]) F.length=g:=by rw[eU (by rw[bP];show F.length<F.length+1;omega),FN (cu _)];simp
theorem RK{F:aA Fe}{t:au}(h:∀f∈F,f.k.size=2):CE (F++[gf t]) nk=aj F.length:=by
 unfold CE;rw[mg];refine⟨by rw[bP];show F.length<F.length+1;omega, ?_,λj hj=> ?_⟩
 ·rw[FN (cu _)];simp only[wQ,List.getElem_cons_zero];unfold Bm gf;simp
 ·rw[DW hj,RM (h _ (bD hj))];simp
theorem Vj{L:aA Cl}{c:Cl}(h:∀x∈L,x.id<c.id):jn L c=L++[c]:=by unfold jn;rw[eN.2 (λx hx=>aJ (h x hx)),Iw.2 (λx hx q=>by have:=h x hx;have:=b9 q;omega),dn]
theorem jR{L:aA Cl}{id:az}(h:∀x∈L,x.id<id):jr L id=false:=by unfold jr;rw[Ak];intro x hx q;have:=h x hx;have:=b9 q;omega
theorem guard{p:Px}{id:az}(ho:fC p)(B3:1<=id/\id<=9)(h:∀x∈p.cl,x.id<id)(hl:p.cl.length<6):(pY.iZ p&&(decide (1<=id/\id<=9)&&(jm.eB nk&&(!jr p.cl id&&decide (p.cl.length<6)))))=true:=by rw[nP.mR.2 ho,aJ B3,jR h,aJ hl];rfl
theorem PY{w:Wo}(ho:fC w.p)(h2:K2 w)(hc:w.p.cl=[]):(w.p.fe.length=20/\(ed.ask w.p 1 nk).2=2)\/((ed.ask w.p 1 nk).2=0/\St w.p.fe ⟨#[]⟩ [1] (ed.ask w.p 1 nk).1):=by
 have b8:=z8.IK 1 nk ho;have e:ed.ask w.p 1 nk=n9 w.p 1 nk false:=by unfold ed.ask;rw[guard ho (by omega) (by rw[hc];intro x hx;cases hx) (by rw[hc];decide),ay,GU h2.en]
 rw[e]at b8⊢;unfold n9 at b8⊢;rw[RJ h2.fe]at b8⊢;dsimp only at b8⊢;have Lp:=ho.fl;by_cases MW:w.p.fe.length<20
 ·rw[aJ MW,ay]at b8⊢;refine .inr ⟨rfl,b8,h2.en,h2.fe,rfl, ?_⟩;show jn w.p.cl ⟨1,nk,(w.p.fe.length:az)+1,0,1,(el (w.p.fe++[qk nk]) w.p.fe.length).t,0⟩=_;rw[hc,pk];rfl
 ·rw[aM MW];exact .inl ⟨by omega,rfl⟩
theorem aaU{F:aA Fe}{t:au}{L:aA az}{p:Px}{id:az}(h:St F t L p)(B3:1<=id/\id<=9)(hL:∀x∈L,x<id)(hl:L.length<6):(ed.ask p id nk).2=0/\St F t (L++[id]) (ed.ask p id nk).1:=by
 have b8:=z8.IK id nk h.ok;have ng:∀x∈p.cl,x.id<id:=by rw[h.cl];intro x hx;obtain⟨y,hy,rfl⟩:=cJ.1 hx;exact hL y hy
 have e:ed.ask p id nk=n9 p id nk false:=by unfold ed.ask;rw[guard h.ok B3 ng (by rw[h.cl,bQ];exact hl),ay,GU h.en]
 rw[e]at b8⊢;unfold n9 at b8⊢;have ho:CE p.fe nk=aj F.length:=by rw[h.fe];exact RK h.fk
 rw[ho]at b8⊢;dsimp only at b8⊢;refine⟨rfl,b8,h.en,h.fk,h.fe, ?_⟩
 show jn p.cl ⟨id,nk,(F.length:az)+1,0,1,(el p.fe F.length).t,0⟩=_;rw[Vj (λx hx=>ng x hx),h.cl,h.fe,pk,dm];rfl
theorem St.n{F:aA Fe}{t:au}{L:aA az}{p:Px}(h:St F t L p):qV p (F.length:az)=true:=by unfold qV;rw[nP.mR.2 h.ok,bj,dA,h.fe,pk,aJ (show 0<=(F.length:az)/\(F.length:az)<=((F++[gf t]).length:az)-1 by rw[bP];show _/\_<=((F.length+1:aG):az)-1;omega)];rfl
theorem Sj{F:aA Fe}{g g':Fe}:(F++[g]).set F.length g'=F++[g']:=by rw[List.set_append_right _ _ (cu _),wQ];rfl
theorem I7{n:aG}{st:az}{t t':au}(L:aA az):j8 (L.map (mk n 1 t)) n st t'=L.map (mk n st t'):=by unfold j8;rw[jW];refine vi λi _=> ?_;show ec n st t' (mk n 1 t i)=mk n st t' i;unfold ec mk;dsimp only;rw[aJ (Eq.refl ((n:az)+1))];rfl
theorem part{F:aA Fe}{t:au}{L:aA az}{p:Px}(q:au)(h:St F t L p)(hq:1<=q.size/\q.size<=40)(ht:t.size+q.size<=400):rB p (F.length:az) q=((rB p (F.length:az) q).1,ak)/\St F (t++q) L (rB p (F.length:az) q).1/\(rB p (F.length:az) q).1.now=p.now/\(rB p (F.length:az) q).1.en=p.en/\(rB p (F.length:az) q).1.w=p.w/\(rB p (F.length:az) q).1.m=p.m/\(rB p (F.length:az) q).1.s=p.s/\(rB p (F.length:az) q).1.a=p.a/\(rB p (F.length:az) q).1.hits=p.hits:=by
 have b8:=yC.JT (F.length:az) q h.ok;have e:rB p (F.length:az) q=(told p F.length {el p.fe F.length with t:=(el p.fe F.length).t++q} 1,ak):=by unfold rB;rw[h.n,dA,aJ hq,aJ (show(el p.fe F.length).t.size+q.size<=400 by rw[h.fe,pk];exact ht)];rfl
 rw[e]at b8⊢;refine⟨rfl,⟨b8,h.en,h.fk, ?_, ?_⟩,rfl,rfl,rfl,rfl,rfl,rfl,rfl⟩
 ·show p.fe.set F.length _=_;rw[h.fe,pk,Sj];rfl
 ·show j8 p.cl F.length 1 ((el p.fe F.length).t++q)=_;rw[h.cl,h.fe,pk,I7];rfl
theorem close{F:aA Fe}{t:au}{L:aA az}{p:Px}(life:az)(h:St F t L p)(hl:0<=life/\life<=999999):(cls p (F.length:az) life).2=ak/\fC (cls p (F.length:az) life).1/\(cls p (F.length:az) life).1.cl=L.map (mk F.length 2 t):=by
 obtain⟨h1,_⟩:=jA.IZ (f:=(F.length:az)) h.ok hl;have hc:j8 p.cl F.length 2 (el p.fe F.length).t=L.map (mk F.length 2 t):=by rw[h.cl,h.fe,pk,I7];rfl
 refine⟨?_,h1, ?_⟩
 ·unfold cls;rw[h.n,aJ hl];rfl
 ·unfold cls;rw[h.n,aJ hl,aP,ay,dA];cases decide (life>0)
  ·exact hc
  ·exact hc
theorem ama{F:aA Fe}{t:au}{L:aA az}{p:Px}(h:St F t L p):(rm p (F.length:az)).2=ak/\fC (rm p (F.length:az)).1/\(rm p (F.length:az)).1.cl=L.map (mk F.length 3 t):=by
 have h1:=yC.IP (F.length:az) h.ok;refine⟨?_,h1, ?_⟩
 ·unfold rm;rw[h.n];rfl
 ·unfold rm;rw[h.n,ay,dA];show j8 p.cl F.length 3 (el p.fe F.length).t=_;rw[h.cl,h.fe,pk,I7];rfl
theorem full:((⟨#[]⟩:au)++t1)++t2=t3:=by decide
end kS

namespace mF
def p(s:aW)(k:az)(i:aG):aY:=decide (bY (aw s i 0)=k)
theorem ok(d:aW)(n:az)(hl:d.length<=4294967296):c d n=ak/\v d n=Lib.fi (p d n) d.length 0:=by
 refine out d n ?_;unfold vo b;refine oI (p d n) d.length (λm (i:aG)=>l2 Lib.c9 (λ(_:aW) (_:az) (y7 _ _:az)=>aj y7) (λ(_:aW) (_:az) (_ _ _:az)=>aj (-1)) m d n 0 (d.length:az) (i:az)) aj (λm i hi hp=> ?_) (λm i hi hp=> ?_) (λm=> ?_) Lib.c9 (cU (by omega))
 ·unfold p at hp;simp only[l2,r2,Lib.dE,Lib.cS,Lib.eG,hi,aR,aP,ay,N0.v,hp]
 ·unfold p at hp;simp only[l2,r2,Lib.dE,Lib.cS,Lib.eG,hi,aR,aP,ay,N0.v,hp,aD,Lib.de hi (by omega:d.length<=9223372036854775807)]
 ·simp only[l2,r2,Lib.dE,bu,bm,aD]
end mF

namespace KU
def cn(y:aA CV):aY:=match y with|[.i .i64 _, .s _, .i .i64 _, .i .i64 _, .i .i64 _, .s _, .i .i64 _]=>ak|_=>aq
def cr(y:aA CV):aA CV:=[CV.i ar (bY (y.getD 0 (.b aq))),CV.s (bH (y.getD 1 (.b aq))),CV.i ar (bY (y.getD 2 (.b aq))),CV.i ar (bY (y.getD 3 (.b aq))),CV.i ar (bY (y.getD 4 (.b aq))),CV.s (bH (y.getD 5 (.b aq))),CV.i ar (bY (y.getD 6 (.b aq)))]
theorem yK{y:aA CV}(h:cn y=ak):cr y=y:=by
 unfold cn at h;split at h
 ·rfl
 ·cases h
theorem oN{y:aA CV}(h:cn y=ak):y.length=7:=by rw[<-yK h];rfl
def keep(d:az)(y:aA CV):aY:= !decide (bY (y.getD 0 (.b aq))=d)
theorem jy(d:az){s:aW}{i:aG}(h:i<s.length):(s.take (i+1)).filter (keep d)=(s.take i).filter (keep d)++(bif keep d s[i]then [s[i]]else []):=by rw[c8 h,iP];cases hk:keep d s[i]<;>simp[hk]
theorem run(N:aG)(s0:aW)(d:az)(hc:s0.all cn=ak)(hn:s0.length<=9223372036854775807)(K:az->az->az->aW->aC R)(kr:aW->aC R)
  (hK:∀(j:aG) x,x.length=s0.length->j<=s0.length->K d j s0.length x=kr (x.take j)) (m j i:aG) (x:aW)
  (hi:j<i/\i<=s0.length/\x.length=s0.length/\(∀y∈x,y.length=7)/\x.take j=(s0.take i).filter (keep d)/\x.drop i=s0.drop i) (hm:s0.length-i<m):
  l5 N K m d j i x=kr (s0.filter (keep d)):=by
 have Qu:∀y∈s0,cn y=true:=bn.1 hc
 refine Lib.il (λm (s:aG×aG×aW)=>l5 N K m d s.1 s.2.1 s.2.2) (λs=>s0.length-s.2.1)
  (λs=>s.1<s.2.1/\s.2.1<=s0.length/\s.2.2.length=s0.length/\(∀y∈s.2.2,y.length=7)/\s.2.2.take s.1=(s0.take s.2.1).filter (keep d)/\s.2.2.drop s.2.1=s0.drop s.2.1)
  (λ_=>kr (s0.filter (keep d))) (λm s hs=> ?_) m (j,i,x) hi hm
 obtain⟨j,i,x⟩:=s;obtain⟨h1,h2,h3,h4,h5,h6⟩:=hs;simp only at h1 h2 h3 h4 h5 h6⊢;by_cases gQ:i<s0.length
 ·right;have ru:i<x.length:=by omega
  have Lt:j<x.length:=by omega
  have hx:x[i]=s0[i]:=by have e1:=Lib.fm ru;have e2:=Lib.fm gQ;rw[h6,e2]at e1;exact(l_ e1).1.symm
  have hd:x.drop (i+1)=s0.drop (i+1):=by have e1:=Lib.fm ru;have e2:=Lib.fm gQ;rw[h6,e2]at e1;exact(l_ e1).2.symm
  have Qw:=Qu _ (bD gQ);have hf:=jy d gQ;cases hk:keep d s0[i]with
  |true=>
   refine⟨(j+1,i+1,x.set j s0[i]), ?_,by simp only;omega,trivial, ?_⟩
   ·rw[hk,ay,<-h5]at hf;refine⟨by simp only;omega,by simp only;omega,by simpa using h3, ?_, ?_, ?_⟩
    ·intro y hy;rcases gV hy with h|h
     ·exact h4 y h
     ·rw[h];exact oN Qw
    ·rw[hf];rw[c8 (by simpa using Lt)];simp[uC]
    ·simp only;rw[uz (by omega)];exact hd
   ·have e:N0.v (bY (aw x i 0)) (bH (aw x i 1)) (bY (aw x i (1+1))) (bY (aw x i (1+1+1))) (bY (aw x i (1+1+1+1))) (bH (aw x i (1+1+1+1+1))) (bY (aw x i (1+1+1+1+1+1))) d=false:=by
     have:(!N0.v (bY (aw x i 0)) (bH (aw x i 1)) (bY (aw x i (1+1))) (bY (aw x i (1+1+1))) (bY (aw x i (1+1+1+1))) (bH (aw x i (1+1+1+1+1))) (bY (aw x i (1+1+1+1+1+1))) d)=true:=by rw[Lib.cY ru,hx];exact hk
     simpa using this
    have es:eA x j 0 [CV.i ar (bY (aw x i 0)),CV.s (bH (aw x i 1)),CV.i ar (bY (aw x i (1+1))),CV.i ar (bY (aw x i (1+1+1))),CV.i ar (bY (aw x i (1+1+1+1))),CV.s (bH (aw x i (1+1+1+1+1))),CV.i ar (bY (aw x i (1+1+1+1+1+1)))]=x.set j s0[i]:=by
     have hl:=h4 _ (bD Lt);rw[Lib.Ft Lt,Lib.cY ru,Lib.cY ru,Lib.cY ru,Lib.cY ru,Lib.cY ru,Lib.cY ru,Lib.cY ru,hx];have:iG x[j] 0 (cr s0[i])=s0[i]:=by rw[yK Qw];unfold iG;have:=oN Qw;simp[hl,this,iB]
     unfold cr at this;rw[this]
    have b1:(j:az)<(x.length:az):=by omega
    simp only[l5,r5,Lib.dE,Lib.cS,Lib.eG,ru,Lt,aR,bj,ay,e,bX,es,Lib.de gQ hn,Lib.de (show j<s0.length by omega) hn]
  |false=>
   refine⟨(j,i+1,x), ?_,by simp only;omega,trivial, ?_⟩
   ·rw[hk,aD,dn,<-h5]at hf;exact⟨by simp only;omega,by simp only;omega,h3,h4,hf.symm,hd⟩
   ·have e:N0.v (bY (aw x i 0)) (bH (aw x i 1)) (bY (aw x i (1+1))) (bY (aw x i (1+1+1))) (bY (aw x i (1+1+1+1))) (bH (aw x i (1+1+1+1+1))) (bY (aw x i (1+1+1+1+1+1))) d=true:=by
     have:(!N0.v (bY (aw x i 0)) (bH (aw x i 1)) (bY (aw x i (1+1))) (bY (aw x i (1+1+1))) (bY (aw x i (1+1+1+1))) (bH (aw x i (1+1+1+1+1))) (bY (aw x i (1+1+1+1+1+1))) d)=false:=by rw[Lib.cY ru,hx];exact hk
     simpa using this
    simp only[l5,r5,Lib.dE,Lib.cS,Lib.eG,ru,aR,bj,ay,e,ba,aD,Lib.de gQ hn]
 ·left;have:i=s0.length:=by omega
  subst this;rw[fH]at h5;have e:=hK j x h3 (by omega);rw[h5]at e;have ru:¬s0.length<x.length:=by omega
  simp only[l5,r5,Lib.dE,ru,bm,aD,e]
theorem ok(s0:aW)(j7:az)(hc:s0.all cn=ak)(hn:s0.length<=4294967296):c s0 j7=ak/\v s0 j7=s0.filter (keep j7):=by
 refine out s0 j7 ?_;have hv:=mF.ok s0 j7 hn;unfold vo b;rw[hv.1,hv.2,ay];rcases Lib.pP (mF.p s0 j7) s0.length 0 with ⟨h,n7⟩|⟨k,_,zp,hk,QA,Qt⟩
 ·rw[h];have:s0.filter (keep j7)=s0:=by rw[eN];intro y hy;obtain⟨i,hi,rfl⟩:=da hy;have:=n7 i (bL _) (by omega);unfold mF.p at this;rw[Lib.cY hi]at this;unfold keep;rw[this];rfl
  rw[this];rfl
 ·rw[hk];have Ig:k<s0.length:=by omega
  have ic:decide ((k:az)=Mw 1)=false:=aM (by show¬(k:az)= -1;omega);rw[ic,aD,Lib.de Ig (by omega)];have Qu:∀y∈s0,cn y=true:=bn.1 hc;refine run _ s0 j7 hc (by omega) _ aj (λj x hx hj=> ?_) _ k (k+1) s0 ⟨by omega,by omega,rfl,λy hy=>oN (Qu y hy), ?_,rfl⟩ (cU (by omega))
  ·have b1:iQ (j:az) (s0.length:az) (s0.length:az)=true:=by simp[iQ];omega
   have e:jb j x++aT [Ck.i ar,Ck.s,Ck.i ar,Ck.i ar,Ck.i ar,Ck.s,Ck.i ar] (s0.length-j)++pe s0.length x=jb j x++aT [Ck.i ar,Ck.s,Ck.i ar,Ck.i ar,Ck.i ar,Ck.s,Ck.i ar] (s0.length-j):=by rw[iB (by omega),dn]
   have hl:(jb j x).length=j:=by simp;omega
   simp only[hx,Lib.eG,b1,ay,e];rw[Lib.yI (by simp[iQ];omega)];unfold eT;rw[show bc 0=0 from rfl,fB,uD,nS (by omega),iK (by omega)]
  ·rw[jy j7 Ig];have e1:keep j7 s0[k]=false:=by unfold mF.p at QA;rw[Lib.cY Ig]at QA;unfold keep;rw[QA];rfl
   have e2:(s0.take k).filter (keep j7)=s0.take k:=by
    rw[eN];intro y hy;obtain⟨i,hi,rfl⟩:=da hy;have X3:i<k:=by simp at hi;omega
    have:=Qt i (bL _) X3;unfold mF.p at this;rw[Lib.cY (by omega)]at this;rw[my];unfold keep;rw[this];rfl
   rw[e1,e2,aD,dn]
end KU

namespace rY
theorem ok(l:aW)(hl:l.length<=4294967296):c l=ak/\v l=l:=by refine out l ?_;unfold vo b;rw[show bW (aT [Ck.s] 0)+l.length=l.length by simp[aT],Lib.cy (by omega) (by omega)];rfl
end rY

namespace ja
open Lib (rr rs)
theorem ok(w m:aA au)(s:aA (aA az))(a:az)(hw:w.length<=1048576)(hm:m.length<=1048576)(hf:iX.n5 s):c (rs w) (rs m) (rr s) a=ak/\v (rs w) (rs m) (rr s) a=(rs w,rs m,rr s,a):=by have h1:=rY.ok (rs w) (by rw[eJ];omega);have h2:=rY.ok (rs m) (by rw[eJ];omega);have h3:=iX.ok s a hf;exact out _ _ _ _ (by unfold vo b;rw[h1.1,h1.2,h2.1,h2.2,h3.1,h3.2,ay,ay,ay])
end ja

namespace uL
open Lib (rr rs re rf rc Px)
theorem ok(p:Px)(hp:p.Fit 1048576):c p.now (re p.en) (rs p.w) (rs p.m) (rr p.s) p.a (rf p.fe) (rc p.cl) p.hits=ak/\v p.now (re p.en) (rs p.w) (rs p.m) (rr p.s) p.a (rf p.fe) (rc p.cl) p.hits=(p.now,re p.en,rs p.w,rs p.m,rr p.s,p.a,rf p.fe,rc p.cl,p.hits):=by have he:=hp.en;have hf:=hp.fe;have hc:=hp.cl;have h1:=vl.ok (re p.en) (by rw[dU];omega);have h2:=ja.ok p.w p.m p.s p.a hp.w hp.m ⟨hp.s.1,hp.s.2.1⟩;exact out _ _ _ _ _ _ _ _ _ (by unfold vo b;rw[h1.1,h1.2,h2.1,h2.2,ay,ay,Lib.cy (by simp[aT,dL];omega) (by simp[aT,dL];omega),Lib.cy (by simp[aT,eR];omega) (by simp[aT,eR];omega)];rfl)
end uL

namespace FQ
open Lib (rr rs re rf rc Px Cl)
theorem aeA(l:aA Cl):(rc l).all KU.cn=true:=by rw[bn];intro y hy;unfold Lib.rc at hy;obtain⟨z,_,rfl⟩:=cJ.1 hy;rfl
theorem aba(l:aA Cl)(id:az):(rc l).filter (KU.keep id)=rc (l.filter λc=> !decide (c.id=id)):=by unfold Lib.rc;rw[nR];rfl
theorem ok(p:Px)(id:az)(hp:p.Fit 1048576):c p.now (re p.en) (rs p.w) (rs p.m) (rr p.s) p.a (rf p.fe) (rc p.cl) p.hits id=ak/\v p.now (re p.en) (rs p.w) (rs p.m) (rr p.s) p.a (rf p.fe) (rc p.cl) p.hits id=(p.now,re p.en,rs p.w,rs p.m,rr p.s,p.a,rf p.fe,rc (Gq.val p id).cl,p.hits):=by have h:=uL.ok p hp;have hc:=hp.cl;have h2:=KU.ok (rc p.cl) id (aeA _) (by rw[eR];omega);rw[aba]at h2;exact out _ _ _ _ _ _ _ _ _ _ (by unfold vo b;simp only[Lib.lt,h.1,h.2,h2.1,h2.2,ay];rfl)
end FQ

namespace o4
open Lib (rr)
theorem eQ(n a b:az):od.v n a b=decide (a<=n/\n<=b):=fy.eQ n a b
theorem ok(s:aA (aA az))(a:az)(hf:iX.n5 s):c (rr s) a=ak/\v (rr s) a=fy.nH s a:=by
 refine out _ _ ?_;unfold vo b;have hl:=hf.1;rw[gA]
 have inner:∀i (h:i<s.length) (K0 K1:aY->aW->aW->az->az->aW->az->az->aW->az->aC aY) (kf kt:aC aY) (x:az)
   (h0:∀j:az,K0 aq (Lib.ri s[i]) (rr s) s.length i (Lib.ri s[i]) x j (rr s) a=kf) (h1:∀j:az,K1 aq (Lib.ri s[i]) (rr s) s.length i (Lib.ri s[i]) x j (rr s) a=kt),x=(s[i].length:az)->l5 Lib.c9 K0 K1 Lib.c9 aq (Lib.ri s[i]) (rr s) s.length (i:az) (Lib.ri s[i]) x 0 (rr s) a=bif(s[i]).all fy.LG then kt else kf:=λi h K0 K1 kf kt x h0 h1 hx=>by
  subst hx
  exact oE (s[i]) fy.LG (λm (j:aG)=>l5 Lib.c9 K0 K1 m aq (Lib.ri s[i]) (rr s) s.length (i:az) (Lib.ri s[i]) s[i].length (j:az) (rr s) a) kf kt
   (λm j hj hp=>by have hl:=hf.2 _ (bD h);unfold fy.LG at hp;simp only[l5,r5,Lib.dE,hj,aR,Lib.cS,aP,ay,Lib.eG,Lib.gY,Oa hj,bY,eQ,hp,ba,aD,Lib.de hj (by omega:s[i].length<=9223372036854775807)])
   (λm j hj hp=>by unfold fy.LG at hp;simp only[l5,r5,Lib.dE,hj,aR,Lib.cS,aP,ay,Lib.eG,Lib.gY,Oa hj,bY,eQ,hp,bX,h0])
   (λm=>by simp only[l5,r5,Lib.dE,bu,bm,aD,h1]) Lib.c9 (cU (by have:=hf.2 _ (bD h);omega))
 have ro:∀q:aA az,fy.rD q=(q.all fy.LG&&decide (q.length=16)):=λq=>Bool.and_comm ..
 have key:=oE s fy.rD (λm (i:aG)=>l2 Lib.c9 (λ(W8:aY) (_:aW) (_ _:az) (_:aW) (_:az)=>aj W8) (λ(_:aY) (_:aW) (_ _:az) (y46:aW) (y47:az)=>bif(decide ((↑(bW y46):az)=3))then(aj (od.v y47 0 63))else(aj aq)) m aq (rr s) s.length (i:az) (rr s) a) (aj aq) (aj (decide (s.length=3)&&decide (0<=a/\a<=63)))
  (λm i h hp=>by rw[ro,aK]at hp;have Ic:=b9 hp.2;simp only[l2,r2,gA,Lib.dE,h,aR,Lib.cS,aP,ay,Lib.eG,Ij h,jx,Lib.gY];rw[inner i h _ _ (aj aq) _ _ (λ_=>rfl) (λ_=>rfl) rfl,hp.1,ay,Lib.gY,Ic,show(((16:aG):az) !=16)=aq from rfl,aD,Lib.de h (by omega)])
  (λm i h hp=>by
   rw[ro]at hp;simp only[l2,r2,gA,Lib.dE,h,aR,Lib.cS,aP,ay,Lib.eG,Ij h,jx,Lib.gY];rw[inner i h _ _ (aj aq) _ _ (λ_=>rfl) (λ_=>rfl) rfl];cases ha:(s[i]).all fy.LG with
   |false=>rfl
   |true=>rw[ha,bj]at hp;have:=lr hp;rw[ay,Lib.gY,show((s[i].length:az) !=16)=ak by simp;omega,ay])
  (λm=>by simp only[l2,r2,gA,Lib.dE,bu,bm,aD,eQ];rw[show decide ((s.length:az)=3)=decide (s.length=3)by rw[ch];omega];cases decide (s.length=3)<;>rfl) Lib.c9 (cU (by omega))
 refine key.trans ?_;unfold fy.nH;cases s.all fy.rD<;>cases decide (s.length=3)<;>cases decide (0<=a/\a<=63)<;>rfl
end o4

namespace Cf
theorem ok(n:az)(h0:0<=n)(h1:n<=4294967296):c n=ak/\v n=[]:=by
 refine out n ?_;unfold vo b;have e:bN (n-bN (0-0))=n:=by rw[show bN (0-0)=0 from rfl,Int.sub_zero,dh (by omega) (by omega)]
 rw[e,aM (show¬n<0 by omega),aD];by_cases hn:n>0
 ·rw[aJ hn,ay,aJ h0,aJ (show n<=9223372036854775807 by omega),Lib.cy (by simp;omega) (by simp;omega)];simp[eT]
 ·rw[aM hn,aD]
end Cf

namespace vn
theorem ok(p q:aW)(hp:p.length<=1048576)(hq:q.length<=1048576):c [[CV.l 9 p],[CV.l 9 q]]=ak/\v [[CV.l 9 p],[CV.l 9 q]]=p++q:=by
 refine out _ ?_;have w1:bN (0+(p.length:az))=(p.length:az):=by rw[Int.zero_add];exact dh (by omega) (by omega)
 have w2:bN ((p.length:az)+(q.length:az))=(p.length:az)+(q.length:az):=dh (by omega) (by omega);have hg:=Cf.ok ((p.length:az)+(q.length:az)) (by omega) (by omega);have d1:decide ((p.length:az)<0)=false:=aM (by omega);have d2:decide ((p.length:az)+(q.length:az)<0)=false:=aM (by omega);have g1:cK (0+p.length) 16=true:=Lib.cy (by omega) (by omega);have g2:cK (p.length+q.length) 16=true:=Lib.cy (by omega) (by omega);have c0:jx (aw [[CV.l 9 p],[CV.l 9 q]] 0 0)=p:=rfl;have c1:jx (aw [[CV.l 9 p],[CV.l 9 q]] 1 0)=q:=rfl;unfold vo b;obtain⟨n,hn⟩:∃n,Lib.c9=n+3:=⟨18446744073709551613,rfl⟩
 generalize Lib.c9=B at hn⊢;subst hn;have k3:∀(R:Type) (K:aW->az->aW->az->az->aC R) (S:aW),S=[[CV.l 9 p],[CV.l 9 q]]->l3 (n+3) K (n+3) S 0 S 2 0=K S ((p.length:az)+(q.length:az)) S 2 2:=by intro R K S hS;subst hS;simp only[l3,r3,c7,ju,show bc 0=0 from rfl,c0,w1,d1,show bN (0+1)=1 from rfl,show bc 1=1 from rfl,c1,w2,d2,show bN (1+1)=2 from rfl,aD,show decide ((0:az)<2)=ak from rfl,show decide ((1:az)<2)=ak from rfl,show decide ((2:az)<2)=aq from rfl,show decide ((0:az)<=0)=ak from rfl,show decide ((0:az)<=1)=ak from rfl,show((0+1+1:aG):az)=2 from rfl,aP,ay]
 have k11:∀(R:Type) (K:aW->az->az->aW->aC R) (S:aW),S=[[CV.l 9 p],[CV.l 9 q]]->E6 (n+3) K (n+3) S 2 0 []=K S 2 2 (p++q):=by intro R K S hS;subst hS;simp only[E6,zU,c7,ju,show bc 0=0 from rfl,c0,g1,show bN (0+1)=1 from rfl,show bc 1=1 from rfl,c1,gk,g2,show bN (1+1)=2 from rfl,aD,show decide ((0:az)<2)=ak from rfl,show decide ((1:az)<2)=ak from rfl,show decide ((2:az)<2)=aq from rfl,show decide ((0:az)<=0)=ak from rfl,show decide ((0:az)<=1)=ak from rfl,show((0+1+1:aG):az)=2 from rfl,aP,ay]
 show l3 (n+3) _ (n+3) _ 0 _ 2 0=_;rw[k3 _ _ _ rfl,hg.1,hg.2,ay];exact k11 _ _ _ rfl
end vn

namespace qc
theorem ok(w m:aA au)(s:aW)(a:az)(hw:w.length<=1048576)(hm:m.length<=1048576):c (Lib.rs w) (Lib.rs m) s a=ak/\v (Lib.rs w) (Lib.rs m) s a=Lib.rs (w++m):=by
 have h:=vn.ok (Lib.rs w) (Lib.rs m) (by rw[eJ];exact hw) (by rw[eJ];exact hm);have e:aE (aE (aT [Ck.l 9] 2) 0 [CV.l 9 (Lib.rs w)]) 1 [CV.l 9 (Lib.rs m)]=[[CV.l 9 (Lib.rs w)],[CV.l 9 (Lib.rs m)]]:=rfl;have e2:Lib.rs w++Lib.rs m=Lib.rs (w++m):=by unfold Lib.rs;rw[dm]
 exact out _ _ _ _ (by unfold vo b;rw[e,h.1,h.2,ay,e2])
end qc

namespace zh
theorem ok(l:aA au)(k:au)(hl:l.length<=4294967296):c (Lib.rs l) k=ak/\decide (v (Lib.rs l) k≥0)=eW.has l k:=by
 have h:=out (Lib.rs l) k (x:=Lib.fi (λi=>decide ((l.getD i ⟨#[]⟩)=k)) l.length 0) (by
  unfold vo b;rw[eJ];refine oI (λi=>decide ((l.getD i ⟨#[]⟩)=k)) l.length (λm (i:aG)=>l2 Lib.c9 (λ(_:aW) (_:au) (y7 _ _:az)=>aj y7) (λ(_:aW) (_:au) (_ _ _:az)=>aj (-1)) m (Lib.rs l) k 0 (l.length:az) (i:az)) aj (λm i hi hp=> ?_) (λm i hi hp=> ?_) (λm=> ?_) Lib.c9 (cU (by omega))
  ·have hg:l.getD i ⟨#[]⟩=l[i]:=by simp[jt,hi]
   rw[hg]at hp;have mB:decide (k=l[i])=true:=by rw[<-hp,ch];exact GV
   simp only[l2,r2,eJ,Lib.dE,hi,aR,Lib.cS,aP,ay,Lib.eG,TT hi,bH,Lib.fE,mB]
  ·have hg:l.getD i ⟨#[]⟩=l[i]:=by simp[jt,hi]
   rw[hg]at hp;have mB:decide (k=l[i])=false:=by rw[<-hp,ch];exact GV
   simp only[l2,r2,eJ,Lib.dE,hi,aR,Lib.cS,aP,ay,Lib.eG,TT hi,bH,Lib.fE,mB,aD,Lib.de hi (by omega:l.length<=9223372036854775807)]
  ·simp only[l2,r2,Lib.dE,bu,bm,aD])
 refine⟨h.1, ?_⟩
 rw[h.2];exact Lib.Je l (λx=>decide (x=k)) _ (λi hi=>by simp[jt,hi])
end zh

namespace rI
theorem ok(l:aA au)(k:au)(hl:l.length<=4294967296):c (Lib.rs l) k=ak/\v (Lib.rs l) k=eW.has l k:=by have h:=zh.ok l k hl;exact out _ _ (by unfold vo b;rw[h.1,h.2,ay])
end rI

namespace oC
open Lib (rr rs)
open eW (has without gp jR)
open jm (eB Jz mO rQ wq)
theorem iw(k:au):Mz.v k=eB k:=fy.eQ _ _ _
theorem ok(w m:aA au)(s:aA (aA az))(a:az)(hw:w.length<=1048576)(hm:m.length<=1048576)(hf:iX.n5 s):c (rs w) (rs m) (rr s) a=ak/\v (rs w) (rs m) (rr s) a=rQ w m s a:=by
 refine out _ _ _ _ ?_;have h2:=o4.ok s a hf;have h3:=qc.ok w m (rr s) a hw hm;unfold vo b;rw[h3.1,h3.2,ay,eJ];have hl:(w++m).length<=2097152:=by rw[bP];omega
 have gQ:∀i,i<(w++m).length->rI.c (rs ((w++m).take i)) ((w++m).getD i ⟨#[]⟩)=ak/\rI.v (rs ((w++m).take i)) ((w++m).getD i ⟨#[]⟩)=has ((w++m).take i) ((w++m).getD i ⟨#[]⟩):=λi hi=>rI.ok _ _ (by rw[eu];omega);have hk:∀i (hi:i<(w++m).length),bH (aw (rs (w++m)) i 0)=(w++m).getD i ⟨#[]⟩:=λi hi=>by rw[TT hi,show(w++m).getD i ⟨#[]⟩=(w++m)[i]by rw[cL,eI hi];rfl];rfl
 generalize hL:w++m=L at hl gQ hk
 have key:=jU (Jz L) L.length (λn (i:aG)=>l3 Lib.c9 (λ(y8:aY) (_ _:az) (_ _ _:aW) (_:az) (_:aW)=>aj y8) (λ(_:aY) (_ _:az) (B6 tz F_:aW) (Ga:az) (_:aW)=>bif(decide ((↑(bW B6):az)<=2))then(bif(decide ((↑(bW tz):az)<=4))then(bif(o4.c F_ Ga)then(aj (o4.v F_ Ga))else(ao))else(aj aq))else(aj aq)) n aq (L.length:az) (i:az) (rs w) (rs m) (rr s) a (rs L)) (aj aq) (aj (decide (w.length<=2)&&(decide (m.length<=4)&&fy.nH s a)))
  (λn i hi hp=>by
   unfold Jz at hp;rw[aK,dG]at hp;have b1:iQ 0 (i:az) (L.length:az)=true:=by simp[iQ];omega
   simp only[l3,r3,eJ,Lib.dE,hi,aR,Lib.cS,aP,ay,Lib.eG,hk i hi,iw,hp.1,ba,aD,b1,wq,(gQ i hi).1,(gQ i hi).2,hp.2,Lib.de hi (by omega:L.length<=9223372036854775807)])
  (λn i hi hp=>by
   have b1:iQ 0 (i:az) (L.length:az)=true:=by simp[iQ];omega
   unfold Jz at hp;cases h1:eB (L.getD i ⟨#[]⟩)with
   |false=>simp only[l3,r3,eJ,Lib.dE,hi,aR,Lib.cS,aP,ay,Lib.eG,hk i hi,iw,h1,bX]
   |true=>rw[h1,bj,mb]at hp;simp only[l3,r3,eJ,Lib.dE,hi,aR,Lib.cS,aP,ay,Lib.eG,hk i hi,iw,h1,ba,aD,b1,wq,(gQ i hi).1,(gQ i hi).2,hp])
  (λn=>by simp only[l3,r3,eJ,Lib.dE,bu,bm,aD,h2.1,h2.2,ay];rw[show decide ((w.length:az)<=2)=decide (w.length<=2)by rw[ch];omega,show decide ((m.length:az)<=4)=decide (m.length<=4)by rw[ch];omega];cases decide (w.length<=2)<;>cases decide (m.length<=4)<;>rfl) Lib.c9 (cU (by omega))
 refine key.trans ?_;unfold rQ mO;rw[hL];cases (cO L.length).all (Jz L)<;>rfl
end oC

namespace uI
open Lib (rr rs)
open eW (has)
theorem UQ(w m:aA au)(k:au):has (w++m) k=(has w k||has m k):=by unfold has;rw[List.any_append]
theorem ok(w m:aA au)(s:aW)(a:az)(k:au)(hw:w.length<=1048576)(hm:m.length<=1048576):c (rs w) (rs m) s a k=ak/\v (rs w) (rs m) s a k=(has w k||has m k):=by have h1:=qc.ok w m s a hw hm;have h2:=rI.ok (w++m) k (by rw[bP];omega);exact out _ _ _ _ _ (by unfold vo b;rw[h1.1,h1.2,h2.1,h2.2,ay,ay,UQ])
end uI

namespace N1
open Lib (rr rs re el qw tV tW tX En)
open eW (has)
open jm (rQ)
open m7 (FV K8 tP)
theorem Dc(k:au)(s l:az)(b:au):Ar.v k s l b=iM.v k s l b:=rfl
theorem ok(i0:az)(en:aA En)(w m:aA au)(s:aA (aA az))(a:az)(r6 r7:aW)(i8:az)(he:en.length<=1048576)(hw:w.length<=1048576)(hm:m.length<=1048576)(hf:iX.n5 s):
  c i0 (re en) (rs w) (rs m) (rr s) a r6 r7 i8=ak/\v i0 (re en) (rs w) (rs m) (rr s) a r6 r7 i8=K8 en w m s a:=by
 refine out _ _ _ _ _ _ _ _ _ ?_;have h1:=oC.ok w m s a hw hm hf;have h2:=λk=>uI.ok w m (rr s) a k hw hm;have h3:=qc.ok w m (rr s) a hw hm;unfold vo b;rw[dU]
 have key:=jU (FV en w m) en.length (λn (i:aG)=>l2 Lib.c9 (λ(F9:aY) (_:aW) (_ _ _:az) (_ _ _ _:aW) (_:az) (_ _:aW) (_:az)=>aj F9) (λ(_:aY) (_:aW) (_ _ _:az) (Mn Kl Km To:aW) (Tp:az) (_ _:aW) (_:az)=>bif(oC.c Kl Km To Tp)then(bif(oC.v Kl Km To Tp)then(bif(qc.c Kl Km To Tp)then(aj (decide ((↑(bW (qc.v Kl Km To Tp)):az)=(↑(bW Mn):az))))else(ao))else(aj aq))else(ao)) n aq (re en) (en.length:az) (i:az) i0 (re en) (rs w) (rs m) (rr s) a r6 r7 i8) (aj aq) (aj (rQ w m s a&&decide (w.length+m.length=en.length)))
  (λn i hi hp=>by
   unfold FV tP at hp;rw[aK,aK]at hp;obtain⟨p1,p2,p3⟩:=hp;by_cases hz:i=0
   ·subst hz;simp only[l2,r2,dU,Lib.dE,hi,aR,Lib.cS,aP,ay,Lib.eG,qw hi,tV hi,tW hi,tX hi,bH,bY,Dc,p1,ba,aD,aM (show¬(((0:aG):az)>0)by omega),(h2 _).1,(h2 _).2,p3,Lib.de hi (by omega:en.length<=9223372036854775807)]
   ·rw[aM hz,nK]at p2;have lK:i-1<en.length:=by omega
    simp only[l2,r2,dU,Lib.dE,hi,aR,Lib.cS,aP,ay,Lib.eG,qw hi,tV hi,tW hi,tX hi,bH,bY,Dc,p1,ba,aD,aJ (show(i:az)>0 by omega),lu (show 0<i by omega) (by omega),lK,qw lK,p2,(h2 _).1,(h2 _).2,p3,Lib.de hi (by omega:en.length<=9223372036854775807)])
  (λn i hi hp=>by
   unfold FV tP at hp;cases p1:iM.v (el en i).k (el en i).st (el en i).li (el en i).bo with
   |false=>simp only[l2,r2,dU,Lib.dE,hi,aR,Lib.cS,aP,ay,Lib.eG,qw hi,tV hi,tW hi,tX hi,bH,bY,Dc,p1,bX]
   |true=>
    rw[p1,bj]at hp;by_cases hz:i=0
    ·subst hz;rw[aJ rfl,y_,bj]at hp;simp only[l2,r2,dU,Lib.dE,hi,aR,Lib.cS,aP,ay,Lib.eG,qw hi,tV hi,tW hi,tX hi,bH,bY,Dc,p1,ba,bX,aD,aM (show¬(((0:aG):az)>0)by omega),(h2 _).1,(h2 _).2,hp]
    ·rw[aM hz,nK]at hp;have lK:i-1<en.length:=by omega
     cases p2:cf (aL (el en (i-1)).k) (aL (el en i).k)with
     |false=>simp only[l2,r2,dU,Lib.dE,hi,aR,Lib.cS,aP,ay,Lib.eG,qw hi,tV hi,tW hi,tX hi,bH,bY,Dc,p1,ba,bX,aD,aJ (show(i:az)>0 by omega),lu (show 0<i by omega) (by omega),lK,qw lK,p2]
     |true=>rw[p2,bj]at hp;simp only[l2,r2,dU,Lib.dE,hi,aR,Lib.cS,aP,ay,Lib.eG,qw hi,tV hi,tW hi,tX hi,bH,bY,Dc,p1,ba,bX,aD,aJ (show(i:az)>0 by omega),lu (show 0<i by omega) (by omega),lK,qw lK,p2,(h2 _).1,(h2 _).2,hp])
  (λn=>by simp only[l2,r2,Lib.dE,bu,bm,aD,h1.1,h1.2,h3.1,h3.2,ay,eJ,dU,bP];rw[show decide (((w.length+m.length:aG):az)=(en.length:az))=decide (w.length+m.length=en.length)by rw[ch];omega];cases rQ w m s a<;>rfl) Lib.c9 (cU (by omega))
 refine key.trans ?_;unfold K8;cases (cO en.length).all (FV en w m)<;>rfl
end N1

namespace fJ
def op(r:aW)(i:aG):aY:=decide (bY (aw r i 2)=1)
def g(r:aW)(i j:aG):aY:= !(op r i&&(op r j&&dg (aL (bH (aw r i 0))) (aL (bH (aw r j 0)))))
def val(r:aW):aY:=(cO r.length).all λi=>(cO i).all (g r i)
end fJ

namespace qa
def p(s0:aW)(gz:au)(i:aG):aY:=Gm.v (bH (aw s0 i 0)) (bH (aw s0 i 1)) (bY (aw s0 i (1+1))) (bY (aw s0 i (1+1+1))) (bY (aw s0 i (1+1+1+1))) gz
theorem ok(s0:aW)(gz:au)(hl:s0.length<=4294967296):c s0 gz=ak/\v s0 gz=Lib.fi (p s0 gz) s0.length 0:=by
 refine out s0 gz ?_;unfold vo b;refine oI (p s0 gz) s0.length (λm (i:aG)=>l2 Lib.c9 (λ(_:aW) (_:au) (y7 _ _:az)=>aj y7) (λ(_:aW) (_:au) (_ _ _:az)=>aj (-1)) m s0 gz 0 (s0.length:az) (i:az)) aj (λm i hi hp=> ?_) (λm i hi hp=> ?_) (λm=> ?_) Lib.c9 (cU (by omega))
 ·unfold p at hp;simp only[l2,r2,Lib.dE,Lib.cS,Lib.eG,hi,aR,aP,ay,hp]
 ·unfold p at hp;simp only[l2,r2,Lib.dE,Lib.cS,Lib.eG,hi,aR,aP,ay,hp,aD,Lib.de hi (by omega:s0.length<=9223372036854775807)]
 ·simp only[l2,r2,Lib.dE,bu,bm,aD]
end qa

namespace II
theorem ok(i0:az)(r1 r2 r3 r4:aW)(i5:az)(r6 r7:aW)(i8:az)(key:au)(hl:r6.length<=4294967296):c i0 r1 r2 r3 r4 i5 r6 r7 i8 key=ak/\v i0 r1 r2 r3 r4 i5 r6 r7 i8 key=Lib.fi (qa.p r6 key) r6.length 0:=by have h:=qa.ok r6 key hl;exact out _ _ _ _ _ _ _ _ _ _ (by unfold vo b;rw[h.1,h.2,ay])
end II

namespace vk
def q(r:aW)(i:aG):aY:= !(fJ.op r i&&(Lib.fi (qa.p r (bH (aw r i 0))) r.length 0 !=(i:az)))
theorem same(r:aW)(i:aG)(hi:i<r.length):q r i=(cO i).all (fJ.g r i):=by
 unfold q;cases ho:fJ.op r i with
 |false=>symm;rw[pD,bX,bn];intro j _;unfold fJ.g;rw[ho];rfl
 |true=>
  rw[bj];have hp:∀j,qa.p r (bH (aw r i 0)) j= !fJ.g r i j:=by intro j;unfold qa.p Gm.v fJ.g;rw[ho,bj,Bool.not_not,Lib.fE,Lib.fE];unfold fJ.op;rw[show decide (bH (aw r j 0)=bH (aw r i 0))=decide (bH (aw r i 0)=bH (aw r j 0))from by rw[ch];exact GV];cases decide (bH (aw r i 0)=bH (aw r j 0))<;>simp
  have hpi:qa.p r (bH (aw r i 0)) i=true:=by rw[hp];unfold fJ.g;rw[ho,Lib.fE];simp
  rcases Lib.pP (qa.p r (bH (aw r i 0))) r.length 0 with ⟨_,h2⟩|⟨k,h1,h2,h3,h4,h5⟩
  ·have:=h2 i (bL _) (by omega);rw[hpi]at this;cases this
  ·rw[h3];by_cases hk:k=i
   ·subst hk;rw[bne_self_eq_false,bX];symm;rw[bn];intro j hj;have:=h5 j (bL _) (by simpa using hj);rw[hp]at this;simpa using this
   ·have jG:k<i:=by
     rcases qt k i with h|h
     ·exact h
     ·have:=h5 i (bL _) (by omega);rw[hpi]at this;cases this
    rw[show((k:az) !=(i:az))=ak from by simp;omega,ba];symm;rw[List.all_eq_false];refine⟨k,by simpa using jG, ?_⟩
    rw[hp]at h4;simpa using h4
theorem ok(i0:az)(p1 p2 p3 p4:aW)(i5:az)(p6 p7:aW)(i8:az)(hl:p6.length<=4294967296):c i0 p1 p2 p3 p4 i5 p6 p7 i8=ak/\v i0 p1 p2 p3 p4 i5 p6 p7 i8=fJ.val p6:=by
 refine out _ _ _ _ _ _ _ _ _ ?_;unfold vo b;have hw:∀i,i<p6.length->bN ((i:az)+1)=((i+1:aG):az):=λi h=>Lib.de h (by omega);have ho:=λkey=>II.ok i0 p1 p2 p3 p4 i5 p6 p7 i8 key hl
 have key:=jU (q p6) p6.length (λm (i:aG)=>l2 Lib.c9 (λ(F9:aY) (_:aW) (_ _ _:az) (_ _ _ _:aW) (_:az) (_ _:aW) (_:az)=>aj F9) (λ(_:aY) (_:aW) (_ _ _:az) (_ _ _ _:aW) (_:az) (_ _:aW) (_:az)=>aj ak) m aq p6 (p6.length:az) (i:az) i0 p1 p2 p3 p4 i5 p6 p7 i8) (aj aq) (aj ak)
  (λm i hi hp=>by
   unfold q fJ.op at hp;cases e1:decide (bY (aw p6 i (1+1))=1)with
   |false=>simp only[l2,r2,Lib.dE,hi,aR,Lib.cS,aP,ay,Lib.eG,e1,aD,hw i hi]
   |true=>rw[show decide (bY (aw p6 i 2)=1)=ak from e1,bj,dG]at hp;simp only[l2,r2,Lib.dE,hi,aR,Lib.cS,aP,ay,Lib.eG,e1,(ho _).1,(ho _).2,hp,aD,hw i hi])
  (λm i hi hp=>by unfold q fJ.op at hp;rw[mb,aK]at hp;obtain⟨e1,e2⟩:=hp;have e1:decide (bY (aw p6 i (1+1))=1)=true:=e1;simp only[l2,r2,Lib.dE,hi,aR,Lib.cS,aP,ay,Lib.eG,e1,(ho _).1,(ho _).2,e2])
  (λm=>by simp only[l2,r2,Lib.dE,bu,bm,aD]) Lib.c9 (cU (by omega))
 refine key.trans ?_;rw[all_congr (λi hi=>same p6 i hi)];unfold fJ.val;cases (cO p6.length).all λi=>(cO i).all (fJ.g p6 i)<;>rfl
end vk

namespace MB
open Lib (rf el Fe H6 F8 W2 yz TU TV)
open m8 (nr apart lV)
theorem eQ(n a b:az):od.v n a b=decide (a<=n/\n<=b):=fy.eQ n a b
theorem one(fe:aA Fe):fJ.val (rf fe)=(cO fe.length).all (apart fe):=by
 unfold fJ.val;rw[dL];refine all_congr (λi hi=> ?_);unfold apart;refine all_congr (λj hj=> ?_);have jF:j<fe.length:=by omega
 unfold fJ.g fJ.op lV;rw[H6 hi,H6 jF,yz hi,yz jF];simp only[bH,bY,Lib.fE];rfl
theorem ok(i0:az)(u1 u2 u3 u4:aW)(i5:az)(fe:aA Fe)(u7:aW)(i8:az)(hf:fe.length<=1048576):
  c i0 u1 u2 u3 u4 i5 (rf fe) u7 i8=ak/\v i0 u1 u2 u3 u4 i5 (rf fe) u7 i8=((cO fe.length).all (λi=>nr i0 (el fe i))&&(decide (fe.length<=20)&&(cO fe.length).all (apart fe))):=by
 refine out _ _ _ _ _ _ _ _ _ ?_;have h1:=vk.ok i0 u1 u2 u3 u4 i5 (rf fe) u7 i8 (by rw[dL];omega);rw[one]at h1;unfold vo b;rw[dL]
 have key:=jU (λi=>nr i0 (el fe i)) fe.length (λn (i:aG)=>l2 Lib.c9 (λ(F9:aY) (_:aW) (_ _ _:az) (_ _ _ _:aW) (_:az) (_ _:aW) (_:az)=>aj F9) (λ(_:aY) (_:aW) (_ _ Oh:az) (Mn Kl Km To:aW) (Tp:az) (W8 TX:aW) (y38:az)=>bif(decide ((↑(bW W8):az)<=20))then(bif(vk.c Oh Mn Kl Km To Tp W8 TX y38)then(aj (vk.v Oh Mn Kl Km To Tp W8 TX y38))else(ao))else(aj aq)) n aq (rf fe) (fe.length:az) (i:az) i0 u1 u2 u3 u4 i5 (rf fe) u7 i8) (aj aq) (aj (decide (fe.length<=20)&&(cO fe.length).all (apart fe)))
  (λn i hi hq=>by
   unfold nr at hq;simp only[aK]at hq;obtain⟨q1,q2,q3,q4,q5⟩:=hq;have e1:decide (((el fe i).t.size:az)>400)= !decide (((el fe i).t.size:az)<=400):=by rw[<-decide_not,ch];omega
   simp only[l2,r2,dL,Lib.dE,hi,aR,Lib.cS,aP,ay,Lib.eG,H6 hi,F8 hi,W2 hi,TU hi,TV hi,bH,bY,eQ,oC.iw,e1,q1,q2,q3,q4,q5,ba,aD,Lib.de hi (by omega:fe.length<=9223372036854775807)])
  (λn i hi hq=>by
   unfold nr at hq;have e1:decide (((el fe i).t.size:az)>400)= !decide (((el fe i).t.size:az)<=400):=by rw[<-decide_not,ch];omega
   simp only[l2,r2,dL,Lib.dE,hi,aR,Lib.cS,aP,ay,Lib.eG,H6 hi,F8 hi,W2 hi,TU hi,TV hi,bH,bY,eQ,oC.iw,e1];revert hq;cases jm.eB (el fe i).k<;>cases decide (((el fe i).t.size:az)<=400)<;>cases decide (1<=(el fe i).sta/\(el fe i).sta<=3)<;>cases decide (0<=(el fe i).li/\(el fe i).li<=999999)<;>cases decide (0<=(el fe i).st/\(el fe i).st<=i0)<;>intro hq<;>first|rfl|cases hq)
  (λn=>by simp only[l2,r2,Lib.dE,bu,bm,aD,dL,h1.1,h1.2,ay];rw[show decide ((fe.length:az)<=20)=decide (fe.length<=20)by rw[ch];omega];cases decide (fe.length<=20)<;>rfl) Lib.c9 (cU (by omega))
 refine key.trans ?_;cases (cO fe.length).all (λi=>nr i0 (el fe i))<;>rfl
end MB

namespace N2
open Lib (rf rc el Fe Cl Ki Te Tf Tg Th Ti Tj)
open jm (eB)
open pY (FT)
open MB (eQ)
theorem step(N:aG)(g k0 k1:aY->aW->az->az->az->aW->aW->aW->aW->az->aW->aW->az->aC R)(i0:az)(q1 q2 q3 q4:aW)(i5:az)(fe:aA Fe)(cl:aA Cl)(i8:az)(i:aG)(hi:i<cl.length)(hl:cl.length<=1048576):
  r2 N g k0 k1 aq (rc cl) cl.length (i:az) i0 q1 q2 q3 q4 i5 (rf fe) (rc cl) i8=bif FT i0 fe.length cl i then g aq (rc cl) cl.length ((i+1:aG):az) i0 q1 q2 q3 q4 i5 (rf fe) (rc cl) i8 else k0 aq (rc cl) cl.length (i:az) i0 q1 q2 q3 q4 i5 (rf fe) (rc cl) i8:=by
 unfold FT;have e1:decide (((el cl i).got.size:az)>400)= !decide (((el cl i).got.size:az)<=400):=by rw[<-decide_not,ch];omega
 have e2:decide ((el cl i).age<0)= !decide (0<=(el cl i).age):=by rw[<-decide_not,ch];omega
 by_cases hz:i=0
 ·subst hz;simp only[r2,eR,dL,Lib.dE,hi,aR,Lib.cS,aP,ay,Lib.eG,Ki hi,Te hi,Tf hi,Tg hi,Th hi,Ti hi,Tj hi,bH,bY,eQ,oC.iw,aM (show¬(((0:aG):az)>0)by omega),aD,e1,e2,Lib.de hi (by omega:cl.length<=9223372036854775807),y_,bj];cases decide (1<=(el cl 0).id/\(el cl 0).id<=9)<;>cases eB (el cl 0).k<;>cases decide (1<=(el cl 0).sta/\(el cl 0).sta<=3)<;>cases decide (0<=(el cl 0).fe/\(el cl 0).fe<=(fe.length:az))<;>cases decide (((el cl 0).got.size:az)<=400)<;>cases decide (0<=(el cl 0).fr/\(el cl 0).fr<=i0)<;>cases decide (0<=(el cl 0).age)<;>rfl
 ·have lK:i-1<cl.length:=by omega
  have e3:decide ((el cl (i-1)).id≥(el cl i).id)= !decide ((el cl (i-1)).id<(el cl i).id):=by rw[<-decide_not,ch];omega
  simp only[r2,eR,dL,Lib.dE,hi,aR,Lib.cS,aP,ay,Lib.eG,Ki hi,Te hi,Tf hi,Tg hi,Th hi,Ti hi,Tj hi,bH,bY,eQ,oC.iw,aJ (show(i:az)>0 by omega),lu (show 0<i by omega) (by omega),lK,Ki lK,aD,e1,e2,e3,Lib.de hi (by omega:cl.length<=9223372036854775807),aM hz,nK];cases decide (1<=(el cl i).id/\(el cl i).id<=9)<;>cases decide ((el cl (i-1)).id<(el cl i).id)<;>cases eB (el cl i).k<;>cases decide (1<=(el cl i).sta/\(el cl i).sta<=3)<;>cases decide (0<=(el cl i).fe/\(el cl i).fe<=(fe.length:az))<;>cases decide (((el cl i).got.size:az)<=400)<;>cases decide (0<=(el cl i).fr/\(el cl i).fr<=i0)<;>cases decide (0<=(el cl i).age)<;>rfl
theorem ok(i0:az)(q1 q2 q3 q4:aW)(i5:az)(fe:aA Fe)(cl:aA Cl)(i8:az)(hl:cl.length<=1048576):
  c i0 q1 q2 q3 q4 i5 (rf fe) (rc cl) i8=ak/\v i0 q1 q2 q3 q4 i5 (rf fe) (rc cl) i8=((cO cl.length).all (FT i0 fe.length cl)&&decide (cl.length<=6)):=by
 refine out _ _ _ _ _ _ _ _ _ ?_;unfold vo b;rw[eR]
 have key:=jU (FT i0 fe.length cl) cl.length (λn (i:aG)=>l2 Lib.c9 (λ(F9:aY) (_:aW) (_ _ _:az) (_ _ _ _:aW) (_:az) (_ _:aW) (_:az)=>aj F9) (λ(_:aY) (_:aW) (_ _ _:az) (_ _ _ _:aW) (_:az) (_ TX:aW) (_:az)=>aj (decide ((↑(bW TX):az)<=6))) n aq (rc cl) (cl.length:az) (i:az) i0 q1 q2 q3 q4 i5 (rf fe) (rc cl) i8) (aj aq) (aj (decide (cl.length<=6)))
  (λn i hi hq=>by simp only[l2];rw[step _ _ _ _ _ _ _ _ _ _ _ _ _ i hi hl,hq];rfl)
  (λn i hi hq=>by simp only[l2];rw[step _ _ _ _ _ _ _ _ _ _ _ _ _ i hi hl,hq];rfl)
  (λn=>by simp only[l2,r2,Lib.dE,bu,bm,aD,eR];rw[show decide ((cl.length:az)<=6)=decide (cl.length<=6)by rw[ch];omega]) Lib.c9 (cU (by omega))
 refine key.trans ?_;cases (cO cl.length).all (FT i0 fe.length cl)<;>rfl
end N2

namespace Ew
open Lib (rr rs re rf rc el En Fe Cl Px)
open m7 (K8)
open m8 (nr apart)
open pY (FT iZ)
theorem ok(p:Px)(hp:p.Fit 1048576):c p.now (re p.en) (rs p.w) (rs p.m) (rr p.s) p.a (rf p.fe) (rc p.cl) p.hits=ak/\v p.now (re p.en) (rs p.w) (rs p.m) (rr p.s) p.a (rf p.fe) (rc p.cl) p.hits=iZ p:=by refine out _ _ _ _ _ _ _ _ _ ?_;have h1:=N1.ok p.now p.en p.w p.m p.s p.a (rf p.fe) (rc p.cl) p.hits hp.en hp.w hp.m ⟨hp.s.1,hp.s.2.1⟩;have h2:=MB.ok p.now (re p.en) (rs p.w) (rs p.m) (rr p.s) p.a p.fe (rc p.cl) p.hits hp.fe;have h3:=N2.ok p.now (re p.en) (rs p.w) (rs p.m) (rr p.s) p.a p.fe p.cl p.hits hp.cl;unfold vo b iZ;have e1:∀n a b,od.v n a b=decide (a<=n/\n<=b):=λn a b=>fy.eQ n a b;have e2:Aq.v p.hits=decide (0<=p.hits/\p.hits<=1000000000):=e1 p.hits 0 1000000000;rw[e1,e2,h1.1,h1.2,h2.1,h2.2,h3.1,h3.2,EA];cases decide (1<=p.now/\p.now<=1000000000)<;>cases K8 p.en p.w p.m p.s p.a<;>cases decide (p.fe.length<=20)<;>cases decide (p.cl.length<=6)<;>cases decide (0<=p.hits/\p.hits<=1000000000)<;>cases (cO p.fe.length).all (λi=>nr p.now (el p.fe i))<;>cases (cO p.fe.length).all (apart p.fe)<;>cases (cO p.cl.length).all (FT p.now p.fe.length p.cl)<;>rfl
end Ew

namespace p_
def p(s:aW)(k:az)(i:aG):aY:=decide (bY (aw s i 0)=k)
theorem ok(d:aW)(n:az)(hl:d.length<=4294967296):c d n=ak/\v d n=Lib.fi (p d n) d.length 0:=by
 refine out d n ?_;unfold vo b;refine oI (p d n) d.length (λm (i:aG)=>l2 Lib.c9 (λ(_:aW) (_:az) (y7 _ _:az)=>aj y7) (λ(_:aW) (_:az) (_ _ _:az)=>aj (-1)) m d n 0 (d.length:az) (i:az)) aj (λm i hi hp=> ?_) (λm i hi hp=> ?_) (λm=> ?_) Lib.c9 (cU (by omega))
 ·unfold p at hp;simp only[l2,r2,Lib.dE,Lib.cS,Lib.eG,hi,aR,aP,ay,IB.v,hp]
 ·unfold p at hp;simp only[l2,r2,Lib.dE,Lib.cS,Lib.eG,hi,aR,aP,ay,IB.v,hp,aD,Lib.de hi (by omega:d.length<=9223372036854775807)]
 ·simp only[l2,r2,Lib.dE,bu,bm,aD]
end p_

namespace TJ
open Lib (rc el Cl)
open ed (jr)
theorem ok(i0:az)(r1 r2 r3 r4:aW)(i5:az)(r6:aW)(cl:aA Cl)(i8 id:az)(hl:cl.length<=1048576):c i0 r1 r2 r3 r4 i5 r6 (rc cl) i8 id=ak/\decide (v i0 r1 r2 r3 r4 i5 r6 (rc cl) i8 id≥0)=jr cl id:=by
 have h:=p_.ok (rc cl) id (by rw[eR];omega);have o:=out i0 r1 r2 r3 r4 i5 r6 (rc cl) i8 id (by unfold vo b;rw[h.1,h.2,ay]);refine⟨o.1, ?_⟩
 rw[o.2,eR];exact ed.Je cl (λx=>decide (x.id=id)) _ λi hi=>by unfold p_.p;rw[Ki hi,eU hi];rfl
end TJ

namespace vx
def p(s:aW)(k:au)(i:aG):aY:=dg (aL (bH (aw s i 0))) (aL k)
theorem ok(d:aW)(n:au)(hl:d.length<=4294967296):c d n=ak/\v d n=Lib.fi (p d n) d.length 0:=by
 refine out d n ?_;unfold vo b;refine oI (p d n) d.length (λm (i:aG)=>l2 Lib.c9 (λ(_:aW) (_:au) (y7 _ _:az)=>aj y7) (λ(_:aW) (_:au) (_ _ _:az)=>aj (-1)) m d n 0 (d.length:az) (i:az)) aj (λm i hi hp=> ?_) (λm i hi hp=> ?_) (λm=> ?_) Lib.c9 (cU (by omega))
 ·unfold p at hp;simp only[l2,r2,Lib.dE,Lib.cS,Lib.eG,hi,aR,aP,ay,U67.v,hp]
 ·unfold p at hp;simp only[l2,r2,Lib.dE,Lib.cS,Lib.eG,hi,aR,aP,ay,U67.v,hp,aD,Lib.de hi (by omega:d.length<=9223372036854775807)]
 ·simp only[l2,r2,Lib.dE,bu,bm,aD]
end vx

namespace qb
theorem ok(i:aG)(key:au)(hi:i<3)(hk:key.size<=140737488355328):c (i:az) key=ak/\v (i:az) key=(f_.pl i key:az):=by
 refine out _ _ ?_;unfold vo b;have e:(key++bytesOf (aE (aT [Ck.i bk] 1) 0 [CV.i bk (bK bk (bN (↑(dR (i_ (b_ 64 (i:az)) (b_ 64 255))):az)))]))=f_.keyed i key:=by
  unfold f_.keyed;match i,hi with
  |0,_=>rfl
  |1,_=>rfl
  |2,_=>rfl
 have hs:=f_.BG i key;have h:=tN.ok (f_.keyed i key) (by omega);have e2:c5 key+c5 (bytesOf (aE (aT [Ck.i bk] 1) 0 [CV.i bk (bK bk (bN (↑(dR (i_ (b_ 64 (i:az)) (b_ 64 255))):az)))]))=key.size+1:=by rw[o9,BF]
 rw[e2,e,aJ (by omega),ay,h.1,h.2,ay];have hp:=f_.pl_int i key;have hl:=f_.Bu i key;have hr:=f_.J5 i key;unfold f_.sm at hp hr;rw[dh (by omega) (by omega),hp]
end qb

namespace nM
open Lib (rr ri)
open fK (fR bq Cm half AJ NK NL n6 th sa)
theorem acC(K:au->az->az->az->az->aW->aC R)(s:aA (aA az))(key:au)(y a:az)(hs:s.length=3)(hq:∀q∈s,q.length=16/\∀n∈q,0<=n/\n<=15)(hk:key.size<=140737488355328):
  l5 Lib.c9 K Lib.c9 key 3 0 y a (rr s)=K key 3 3 y a (rr (Cm s key)):=by
 refine(n_ fR s (λi q=>bq (f_.pl i key) q) (λm (i:aG) x=>l5 Lib.c9 K m key 3 (i:az) y a x) (λx=>K key 3 3 y a x) (λm i L h h2 hL uQ=> ?_) (λm L hL=> ?_) Lib.c9 (cU (by omega)))
 ·have hp:=qb.ok i key (by omega) hk;have ry:=f_.Bu i key;obtain⟨Ic,hn⟩:=hq _ (bD h);have e0:aw (L.map fR) i 0=CV.l 3 (ri s[i]):=by rw[AJ L i h2,uQ]
  have hb:f_.pl i key<s[i].length:=by omega
  have hx:=hn _ (bD hb);have e3:decide ((i:az)<3)=true:=aJ (by omega);simp only[l5,r5,bQ,Lib.dE,h2,e3,aR,ay,hp.1,hp.2,Lib.cS,aP,Lib.eG,e0,jx,Lib.gY,Ic,ry,Oa hb,bY];unfold bq k8;rw[n6 hb,aD,dh (x:=s[i][f_.pl i key]+1) (by omega) (by omega)];by_cases hd:s[i][f_.pl i key]<15
  ·rw[bM (by omega),aJ hd,ay,NK _ _ _ hb,NL _ _ _ h2,Lib.de h2 (by omega)]
  ·have e15:s[i][f_.pl i key]=15:=by omega
   rw[bC (by omega),aM hd,aD,e15,NK _ _ _ hb,NL _ _ _ h2,Lib.de h2 (by omega)]
 ·have e3:decide ((s.length:az)<3)=false:=aM (by omega);simp only[l5,r5,e3,aD,hs];rfl
theorem ahj(K:aG->az->az->az->az->az->az->aW->aC R)(L:aA (aA az))(i:aG)(h:i<L.length)(u w y a:az)(hl:L.length<=1048576)(hq:L[i].length=16)(hn:∀n∈L[i],0<=n/\n<=15):
  l18 Lib.c9 K Lib.c9 i u w 16 0 y a (L.map fR)=K i u w 16 16 y a ((L.set i (L[i].map λn=>cT n 2)).map fR):=by
 have X6:L[i].mapIdx (λ_ n=>cT n 2)=L[i].map λn=>cT n 2:=by apply kX<;>simp
 have key:=ml (L[i].length) (λm (k:aG) x=>l18 Lib.c9 K m i u w 16 (k:az) y a x) (λk=>(L.set i (nI L[i] (λ_ n=>cT n 2) k)).map fR) (K i u w 16 16 y a ((L.set i (L[i].map λn=>cT n 2)).map fR)) (λm k hk=> ?_) (λm=> ?_) Lib.c9 0 (bL _) (cU (by omega))
 ·rw[BM,eZ]at key;exact key
 ·have hu:=qp L[i] (λ_ n=>cT n 2) k (by omega);generalize hU:nI L[i] (λ_ n=>cT n 2) k=U at hu;have hku:k<U.length:=by omega
  have fW:U[k]=L[i][k]:=by subst hU;exact wm _ _ _ hk _
  have abF:U.set k (cT L[i][k] 2)=nI L[i] (λ_ n=>cT n 2) (k+1):=by subst hU;exact sM L[i] (λ_ n=>cT n 2) k hk
  have h2:i<(L.set i U).length:=by simpa using h
  have e0:aw ((L.set i U).map fR) i 0=CV.l 3 (ri U):=by rw[AJ _ _ h2,j5]
  have hx:=hn _ (bD hk);have ht:0<=cT L[i][k] 2:=Uc hx.1 (by omega);have E1:cT L[i][k] 2<=15:=yF (TB _ hx.1) hx.2;have e3:decide ((k:az)<16)=true:=aJ (by omega);simp only[l18,r18,bQ,cw,Lib.dE,h,hku,e3,aR,ay,Lib.cS,aP,Lib.eG,e0,jx,Lib.gY,Oa hku,bY,fW];rw[dh (x:=cT L[i][k] 2) (by omega) (by omega),NK _ _ _ hku,NL _ _ _ h2,abF,o0,Lib.de hk (by omega)]
 ·have e3:decide ((L[i].length:az)<16)=false:=aM (by omega);simp only[l18,r18,e3,aD];rw[qo,X6,hq];rfl
theorem ahh(K:az->az->az->az->aW->aC R)(s:aA (aA az))(y a:az)(hs:s.length=3)(hq:∀q∈s,q.length=16/\∀n∈q,0<=n/\n<=15):
  l15 Lib.c9 K Lib.c9 3 0 y a (rr s)=K 3 3 y a (rr (half s)):=by
 have X6:s.mapIdx (λ_ q=>q.map λn=>cT n 2)=half s:=by unfold half;apply kX<;>simp
 rw[<-X6];refine(n_ fR s (λ_ q=>q.map λn=>cT n 2) (λm (i:aG) x=>l15 Lib.c9 K m 3 (i:az) y a x) (λx=>K 3 3 y a x) (λm i L h h2 hL uQ=> ?_) (λm L hL=> ?_) Lib.c9 (cU (by omega)))
 ·obtain⟨Ic,hn⟩:=hq _ (bD h);have e3:decide ((i:az)<3)=true:=aJ (by omega);have e0:aw (L.map fR) i 0=CV.l 3 (ri s[i]):=by rw[AJ L i h2,uQ]
  simp only[l15,r15,bQ,Lib.dE,h2,e3,aR,ay,Lib.cS,aP,Lib.eG,e0,jx,Lib.gY,Ic];rw[show((16:aG):az)=16 from rfl,ahj _ L i h2 3 i y a (by omega) (by rw[uQ];exact Ic) (by rw[uQ];exact hn),Lib.de h2 (by omega),uQ]
 ·have e3:decide ((s.length:az)<3)=false:=aM (by omega);simp only[l15,r15,e3,aD,hs];rfl
theorem ok(s:aA (aA az))(a:az)(key:au)(hf:iX.n5 s)(hk:key.size<=140737488355328):c (rr s) a key=ak/\v (rr s) a key=(rr (fK.val s a key).1,(fK.val s a key).2):=by
 refine out _ _ _ ?_;have h1:=iX.ok s a hf;have h2:=o4.ok s a hf;unfold vo b fK.val;rw[h1.1,h1.2,h2.1,h2.2,ay,ay];cases b8:fy.nH s a with
 |false=>rfl
 |true=>
  obtain⟨hs,ha,hq⟩:=th b8;obtain⟨b1,b2⟩:=sa (key:=key) hs hq;rw[ba,aD,ay,gA,hs,show((3:aG):az)=3 from rfl,acC _ s key _ _ hs hq hk,dh (x:=a+1) (by omega) (by omega)];by_cases hd:a+1=64
  ·rw[aM (show¬a+1<64 by omega),aJ hd,ay,aD,gA,b1,show((3:aG):az)=3 from rfl,ahh _ _ _ _ b1 b2]
  ·rw[aJ (show a+1<64 by omega),aM hd];rfl
end nM

namespace rK
def p(s:aW)(k:au)(i:aG):aY:=dg (aL (bH (aw s i 0))) (aL k)
theorem ok(d:aW)(n:au)(hl:d.length<=4294967296):c d n=ak/\v d n=Lib.fi (p d n) d.length 0:=by
 refine out d n ?_;unfold vo b;refine oI (p d n) d.length (λm (i:aG)=>l2 Lib.c9 (λ(_:aW) (_:au) (y7 _ _:az)=>aj y7) (λ(_:aW) (_:au) (_ _ _:az)=>aj (-1)) m d n 0 (d.length:az) (i:az)) aj (λm i hi hp=> ?_) (λm i hi hp=> ?_) (λm=> ?_) Lib.c9 (cU (by omega))
 ·unfold p at hp;simp only[l2,r2,Lib.dE,Lib.cS,Lib.eG,hi,aR,aP,ay,zi.v,hp]
 ·unfold p at hp;simp only[l2,r2,Lib.dE,Lib.cS,Lib.eG,hi,aR,aP,ay,zi.v,hp,aD,Lib.de hi (by omega:d.length<=9223372036854775807)]
 ·simp only[l2,r2,Lib.dE,bu,bm,aD]
end rK

namespace vm
def cn(y:aA CV):aY:=match y with|[.s _]=>ak|_=>aq
def cr(y:aA CV):aA CV:=[CV.s (bH (y.getD 0 (.b aq)))]
theorem yK{y:aA CV}(h:cn y=ak):cr y=y:=by
 unfold cn at h;split at h
 ·rfl
 ·cases h
theorem oN{y:aA CV}(h:cn y=ak):y.length=1:=by rw[<-yK h];rfl
def keep(d:au)(y:aA CV):aY:= !List.beq (aL (bH (y.getD 0 (.b aq)))) (aL d)
theorem jy(d:au){s:aW}{i:aG}(h:i<s.length):(s.take (i+1)).filter (keep d)=(s.take i).filter (keep d)++(bif keep d s[i]then [s[i]]else []):=by rw[c8 h,iP];cases hk:keep d s[i]<;>simp[hk]
theorem run(N:aG)(s0:aW)(d:au)(hc:s0.all cn=ak)(hn:s0.length<=9223372036854775807)(K:au->az->az->aW->aC R)(kr:aW->aC R)
  (hK:∀(j:aG) x,x.length=s0.length->j<=s0.length->K d j s0.length x=kr (x.take j)) (m j i:aG) (x:aW)
  (hi:j<i/\i<=s0.length/\x.length=s0.length/\(∀y∈x,y.length=1)/\x.take j=(s0.take i).filter (keep d)/\x.drop i=s0.drop i) (hm:s0.length-i<m):
  l5 N K m d j i x=kr (s0.filter (keep d)):=by
 have Qu:∀y∈s0,cn y=true:=bn.1 hc
 refine Lib.il (λm (s:aG×aG×aW)=>l5 N K m d s.1 s.2.1 s.2.2) (λs=>s0.length-s.2.1)
  (λs=>s.1<s.2.1/\s.2.1<=s0.length/\s.2.2.length=s0.length/\(∀y∈s.2.2,y.length=1)/\s.2.2.take s.1=(s0.take s.2.1).filter (keep d)/\s.2.2.drop s.2.1=s0.drop s.2.1)
  (λ_=>kr (s0.filter (keep d))) (λm s hs=> ?_) m (j,i,x) hi hm
 obtain⟨j,i,x⟩:=s;obtain⟨h1,h2,h3,h4,h5,h6⟩:=hs;simp only at h1 h2 h3 h4 h5 h6⊢;by_cases gQ:i<s0.length
 ·right;have ru:i<x.length:=by omega
  have Lt:j<x.length:=by omega
  have hx:x[i]=s0[i]:=by have e1:=Lib.fm ru;have e2:=Lib.fm gQ;rw[h6,e2]at e1;exact(l_ e1).1.symm
  have hd:x.drop (i+1)=s0.drop (i+1):=by have e1:=Lib.fm ru;have e2:=Lib.fm gQ;rw[h6,e2]at e1;exact(l_ e1).2.symm
  have Qw:=Qu _ (bD gQ);have hf:=jy d gQ;cases hk:keep d s0[i]with
  |true=>
   refine⟨(j+1,i+1,x.set j s0[i]), ?_,by simp only;omega,trivial, ?_⟩
   ·rw[hk,ay,<-h5]at hf;refine⟨by simp only;omega,by simp only;omega,by simpa using h3, ?_, ?_, ?_⟩
    ·intro y hy;rcases gV hy with h|h
     ·exact h4 y h
     ·rw[h];exact oN Qw
    ·rw[hf];rw[c8 (by simpa using Lt)];simp[uC]
    ·simp only;rw[uz (by omega)];exact hd
   ·have e:zi.v (bH (aw x i 0)) d=false:=by
     have:(!zi.v (bH (aw x i 0)) d)=true:=by rw[Lib.cY ru,hx];exact hk
     simpa using this
    have es:eA x j 0 [CV.s (bH (aw x i 0))]=x.set j s0[i]:=by
     have hl:=h4 _ (bD Lt);rw[Lib.Ft Lt,Lib.cY ru,hx];have:iG x[j] 0 (cr s0[i])=s0[i]:=by rw[yK Qw];unfold iG;have:=oN Qw;simp[hl,this,iB]
     unfold cr at this;rw[this]
    have b1:(j:az)<(x.length:az):=by omega
    simp only[l5,r5,Lib.dE,Lib.cS,Lib.eG,ru,Lt,aR,bj,ay,e,bX,es,Lib.de gQ hn,Lib.de (show j<s0.length by omega) hn]
  |false=>
   refine⟨(j,i+1,x), ?_,by simp only;omega,trivial, ?_⟩
   ·rw[hk,aD,dn,<-h5]at hf;exact⟨by simp only;omega,by simp only;omega,h3,h4,hf.symm,hd⟩
   ·have e:zi.v (bH (aw x i 0)) d=true:=by
     have:(!zi.v (bH (aw x i 0)) d)=false:=by rw[Lib.cY ru,hx];exact hk
     simpa using this
    simp only[l5,r5,Lib.dE,Lib.cS,Lib.eG,ru,aR,bj,ay,e,ba,aD,Lib.de gQ hn]
 ·left;have:i=s0.length:=by omega
  subst this;rw[fH]at h5;have e:=hK j x h3 (by omega);rw[h5]at e;have ru:¬s0.length<x.length:=by omega
  simp only[l5,r5,Lib.dE,ru,bm,aD,e]
theorem ok(s0:aW)(j7:au)(hc:s0.all cn=ak)(hn:s0.length<=4294967296):c s0 j7=ak/\v s0 j7=s0.filter (keep j7):=by
 refine out s0 j7 ?_;have hv:=rK.ok s0 j7 hn;unfold vo b;rw[hv.1,hv.2,ay];rcases Lib.pP (rK.p s0 j7) s0.length 0 with ⟨h,n7⟩|⟨k,_,zp,hk,QA,Qt⟩
 ·rw[h];have:s0.filter (keep j7)=s0:=by rw[eN];intro y hy;obtain⟨i,hi,rfl⟩:=da hy;have:=n7 i (bL _) (by omega);unfold rK.p at this;rw[Lib.cY hi]at this;unfold keep;rw[this];rfl
  rw[this];rfl
 ·rw[hk];have Ig:k<s0.length:=by omega
  have ic:decide ((k:az)=Mw 1)=false:=aM (by show¬(k:az)= -1;omega);rw[ic,aD,Lib.de Ig (by omega)];have Qu:∀y∈s0,cn y=true:=bn.1 hc;refine run _ s0 j7 hc (by omega) _ aj (λj x hx hj=> ?_) _ k (k+1) s0 ⟨by omega,by omega,rfl,λy hy=>oN (Qu y hy), ?_,rfl⟩ (cU (by omega))
  ·have b1:iQ (j:az) (s0.length:az) (s0.length:az)=true:=by simp[iQ];omega
   have e:jb j x++aT [Ck.s] (s0.length-j)++pe s0.length x=jb j x++aT [Ck.s] (s0.length-j):=by rw[iB (by omega),dn]
   have hl:(jb j x).length=j:=by simp;omega
   simp only[hx,Lib.eG,b1,ay,e];rw[Lib.yI (by simp[iQ];omega)];unfold eT;rw[show bc 0=0 from rfl,fB,uD,nS (by omega),iK (by omega)]
  ·rw[jy j7 Ig];have e1:keep j7 s0[k]=false:=by unfold rK.p at QA;rw[Lib.cY Ig]at QA;unfold keep;rw[QA];rfl
   have e2:(s0.take k).filter (keep j7)=s0.take k:=by
    rw[eN];intro y hy;obtain⟨i,hi,rfl⟩:=da hy;have X3:i<k:=by simp at hi;omega
    have:=Qt i (bL _) X3;unfold rK.p at this;rw[Lib.cY (by omega)]at this;rw[my];unfold keep;rw[this];rfl
   rw[e1,e2,aD,dn]
end vm

namespace jK
theorem aeB(l:aA au):(Lib.rs l).all vm.cn=true:=by rw[bn];intro y hy;unfold Lib.rs at hy;obtain⟨z,_,rfl⟩:=cJ.1 hy;rfl
theorem aba(l:aA au)(k:au):(Lib.rs l).filter (vm.keep k)=Lib.rs (eW.without l k):=by unfold Lib.rs eW.without;rw[nR];congr 1;apply pV;intro x _;show(!List.beq (aL x) (aL k))=_;rw[Lib.fE]
theorem ok(l:aA au)(k:au)(hl:l.length<=1048576):c (Lib.rs l) k=ak/\v (Lib.rs l) k=Lib.rs (eW.without l k):=by have h1:=rY.ok (Lib.rs l) (by rw[eJ];omega);have h2:=vm.ok (Lib.rs l) k (aeB l) (by rw[eJ];omega);rw[aba]at h2;exact out _ _ (by unfold vo b;rw[h1.1,h1.2,h2.1,h2.2,ay,ay])
end jK

namespace uG
open Lib (rr ri)
open lX (gs EV)
theorem ok(s:aA (aA az))(a:az)(key:au)(hf:iX.n5 s)(hk:key.size<=140737488355328):c (rr s) a key=ak/\v (rr s) a key=lX.val s a key:=by
 refine out _ _ _ ?_;have h2:=o4.ok s a hf;unfold vo b lX.val;rw[h2.1,h2.2,ay];cases b8:fy.nH s a with
 |false=>rfl
 |true=>
  obtain⟨hs,ha,hq⟩:=fK.th b8;rw[ba,aD,ay,gA];have:=Lib.il (λm (t:aG×az)=>l5 Lib.c9 (λ(_:au) (y6:az) (_:aW) (_ _:az)=>aj y6) m key t.2 (rr s) s.length (t.1:az)) (λt=>s.length-t.1) (λt=>t.1<=s.length) (λt=>aj (gs key t.1 (s.drop t.1) t.2)) (λm t ht=>by
   obtain⟨i,x⟩:=t;dsimp only at ht⊢;by_cases h:i<s.length
   ·right;have hp:=qb.ok i key (by omega) hk;have ry:=f_.Bu i key;obtain⟨Ic,hn⟩:=hq _ (bD h);have hb:f_.pl i key<s[i].length:=by omega
    refine⟨(i+1,bif decide (s[i].getD (f_.pl i key) 0<x)then s[i].getD (f_.pl i key) 0 else x),by dsimp only;omega,by dsimp only;omega,by rw[<-EV key s i h x], ?_⟩
    simp only[l5,r5,gA,Lib.dE,h,aR,ay,hp.1,hp.2,Lib.cS,aP,Lib.eG,Ij h,jx,Lib.gY,Ic,ry,Oa hb,bY,Lib.de h (by omega:s.length<=9223372036854775807)];rw[fK.n6 hb];unfold k8;rw[aD];by_cases hd:s[i][f_.pl i key]<x
    ·rw[bC hd,aJ hd,ay]
    ·rw[bM hd,aM hd,aD]
   ·left;have:i=s.length:=by omega
    subst this;simp only[l5,r5,gA,Lib.dE,bu,bm,aD,dq,gs]) Lib.c9 (0,15) (bL _) (cU (by dsimp only;omega))
  simpa using this
end uG

namespace MA
open Lib (rr rs)
open eW (has without gp jR u_ gZ oS)
open jm (eB Jz mO rQ)
open jv (BH zer Qx S9 mP uV ka J0 si Br)
theorem ok(w m:aA au)(s:aA (aA az))(a:az)(key:au)(hw:w.length<=1048576)(hm:m.length<=1048576)(hf:iX.n5 s)(hk:key.size<=140737488355328):
  c (rs w) (rs m) (rr s) a key=ak/\v (rs w) (rs m) (rr s) a key=(rs (jv.val w m s a key).1,rs (jv.val w m s a key).2.1,rr (jv.val w m s a key).2.2.1,(jv.val w m s a key).2.2.2.1,(jv.val w m s a key).2.2.2.2):=by
 refine out _ _ _ _ _ ?_;have h1:=ja.ok w m s a hw hm hf;have h2:=oC.ok w m s a hw hm hf;have h3:=nM.ok s a key hf hk;have h5:=rI.ok m key (by omega);have h6:=jK.ok w key hw;have h7:=jK.ok m key hm;have sf:=J0 (a:=a) (key:=key) hf;unfold vo b;simp only[Lib.lt,h1.1,h1.2,h2.1,h2.2,ay];unfold jv.val;cases hp:rQ w m s a with
 |false=>rfl
 |true=>
  obtain⟨p1,p2,p3,p4⟩:=Br hp;rw[oC.iw,bj];cases zp:eB key with
  |false=>rfl
  |true=>
   have zq:=ka zp;have l6:=gZ (l:=w) (k:=key);have l7:=gZ (l:=m) (k:=key);simp only[ba,aD,ay,h3.1,h3.2,h5.1,h5.2,h6.1,h6.2,h7.1,h7.2,BH,zer,eJ,o9,bw];rw[Lib.cy (n:=(without w key).length+1) (by omega) (by omega),Lib.cy (n:=(without m key).length+1) (by omega) (by omega)];simp only[ay];cases hA:has w key with
   |true=>
    have hB:has m key=false:=by rw[jR];intro UT;have:=(uV.1 p1).2;rw[ea]at this;exact this.2.2 key (gp.1 hA) key UT rfl
    have jG:=oS hA;rw[hB,aD,ay,aJ (show((without w key++[key]).length:az)<=2 by rw[bP,bw];omega)];rfl
   |false=>
    rw[u_ hA];cases hB:has m key with
    |true=>rfl
    |false=>
     simp only[aD];rw[show decide (((w++[key]).length:az)<=2)=decide ((w++[key]).length<=2)by rw[ch];omega];cases hC:decide ((w++[key]).length<=2)with
     |true=>rfl
     |false=>
      have hlw:(w++[key]).length=3:=by have:=lr hC;rw[bP,bw]at this⊢;omega
      have hfm:(w++[key]).getD 0 ⟨#[]⟩∈w++[key]:=si (by omega);have Jq:((w++[key]).getD 0 ⟨#[]⟩).size<=30:=by
       rcases a_.1 hfm with h|h
       ·exact(ka (mP p1 (bO _ h))).2
       ·rw[aZ]at h;rw[h];exact zq.2
      have g1:=uG.ok (fK.val s a key).1 (fK.val s a key).2 ((w++[key]).getD 0 ⟨#[]⟩) sf (by omega);have i1:iQ 1 ((w++[key]).length:az) ((w++[key]).length:az)=true:=by rw[hlw];rfl
      simp only[aD,aJ (show(0:az)<((w++[key]).length:az)by omega),i1,ay,Qx,S9,zer,BH,eJ,Lib.cy (n:=m.length+1) (b:=16) (by omega) (by omega),g1.1,g1.2];rw[show decide ((m.length:az)<4)=decide (m.length<4)by rw[ch];omega];cases hD:decide (m.length<4)with
      |true=>rfl
      |false=>
       have hm4:m.length=4:=by have:=lr hD;omega
       have X7:m.getD 0 ⟨#[]⟩∈m:=si (by omega);have hms:=(ka (mP p1 (bI _ X7))).2;have g2:=uG.ok (fK.val s a key).1 (fK.val s a key).2 (m.getD 0 ⟨#[]⟩) sf (by omega);have i2:iQ 1 (m.length:az) (m.length:az)=true:=by simp[iQ];omega
       have E1:m.tail.length=3:=by rw[zb];omega
       simp only[aD,aJ (show(0:az)<(m.length:az)by omega),i2,ay,BH,Lib.cy (n:=m.tail.length+1) (b:=16) (by omega) (by omega),g2.1,g2.2];cases decide (lX.val (fK.val s a key).1 (fK.val s a key).2 ((w++[key]).getD 0 ⟨#[]⟩)>lX.val (fK.val s a key).1 (fK.val s a key).2 (m.getD 0 ⟨#[]⟩))<;>rfl
end MA

namespace Ia
open Lib (rr rs)
open eW (without)
theorem ok(w m:aA au)(s:aA (aA az))(a:az)(key:au)(hw:w.length<=1048576)(hm:m.length<=1048576)(hf:iX.n5 s):c (rs w) (rs m) (rr s) a key=ak/\v (rs w) (rs m) (rr s) a key=(rs (without w key),rs (without m key),rr s,a):=by have h1:=ja.ok w m s a hw hm hf;have h2:=jK.ok w key hw;have h3:=jK.ok m key hm;exact out _ _ _ _ _ (by unfold vo b;rw[h1.1,h1.2,h2.1,h2.2,h3.1,h3.2];rfl)
end Ia

namespace pj
open Lib (rc Cl)
open ed (jr jn lid QY)
theorem ok(i0:az)(q1 q2 q3 q4:aW)(i5:az)(q6:aW)(cl:aA Cl)(i8:az)(x:Cl)(cs:cl.Pairwise λa b=>a.id<b.id)(hn:jr cl x.id=aq)(hl:cl.length<=1048576):
  c i0 q1 q2 q3 q4 i5 q6 (rc cl) i8 x.id x.k x.fe x.fr x.sta x.got x.age=ak/\v i0 q1 q2 q3 q4 i5 q6 (rc cl) i8 x.id x.k x.fe x.fr x.sta x.got x.age=(i0,q1,q2,q3,q4,i5,q6,rc (jn cl x),i8):=by
 refine out _ _ _ _ _ _ _ _ _ _ _ _ _ _ _ _ ?_;unfold vo b;have hrl:=eR cl
 have:=wj (lid x.id) (rc cl) (λm (i:aG)=>l2 Lib.c9 (λFH FI B6 tz F_ Ga NQ TW Od Oe Gb Of Og Oh Mn Kl Km=>bif(decide (0<=FH)&&decide (FH<=(↑(bW Km):az))&&cK (bW Km+bW (aE (aT [Ck.i ar,Ck.s,Ck.i ar,Ck.i ar,Ck.i ar,Ck.s,Ck.i ar] 1) 0 [CV.i ar F_,CV.s Ga,CV.i ar NQ,CV.i ar TW,CV.i ar Od,CV.s Oe,CV.i ar Gb])) 72)then(aj (FI,Of,Og,Oh,Mn,B6,Kl,(Pu.xS Km (bc FH) (aE (aT [Ck.i ar,Ck.s,Ck.i ar,Ck.i ar,Ck.i ar,Ck.s,Ck.i ar] 1) 0 [CV.i ar F_,CV.s Ga,CV.i ar NQ,CV.i ar TW,CV.i ar Od,CV.s Oe,CV.i ar Gb])),tz))else(ao)) m (i:az) i0 i5 i8 x.id x.k x.fe x.fr x.sta x.got x.age q1 q2 q3 q4 q6 (rc cl))
  (λa=>bif decide ((a:az)<=((rc cl).length:az))then aj (i0,q1,q2,q3,q4,i5,q6,Pu.xS (rc cl) a [Cl.row x],i8)else ao)
  (λm i h hp=>by
   have mB:decide (bY (aw (rc cl) i 0)<x.id)=true:=by rw[Lib.cY h];exact hp
   simp only[l2,r2,Lib.dE,h,aR,Lib.cS,aP,ay,Lib.eG,mB,Lib.de h (by omega:(rc cl).length<=9223372036854775807)])
  (λm i h hp=>by
   have mB:decide (bY (aw (rc cl) i 0)<x.id)=false:=by rw[Lib.cY h];exact hp
   simp only[l2,r2,Lib.dE,h,aR,Lib.cS,aP,bj,pc,ay,aD,Lib.eG,mB,Lib.jM,bw,Lib.cy (n:=(rc cl).length+1) (b:=72) (by omega) (by omega)];rfl)
  (λm=>by simp only[l2,r2,Lib.dE,bu,bm,aR,Lib.cS,aP,bj,pc,ay,aD,Lib.eG,Lib.jM,bw,Lib.cy (n:=(rc cl).length+1) (b:=72) (by omega) (by omega)];rfl) Lib.c9 (cU (by omega))
 refine this.trans ?_;have hle:=H2 (lid x.id) (rc cl);rw[aJ (by omega),ay];unfold Pu.xS;rw[QY cs hn]
end pj

end Go.FG
